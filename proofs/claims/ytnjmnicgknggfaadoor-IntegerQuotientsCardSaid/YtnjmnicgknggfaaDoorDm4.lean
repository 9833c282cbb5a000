/- Lemmas for the statement: the walks of the functions that it reaches, and plain laws. -/
import Derived.Test.YtnjmnicgknggfaaDoorDm1
import Derived.Test.YtnjmnicgknggfaaDoorDm3
import Derived.Test.YtnjmnicgknggfaaDoorDm2
set_option linter.unusedVariables false
set_option linter.unusedSimpArgs false
set_option maxHeartbeats 8000000
set_option maxRecDepth 100000
namespace Go.Proofs.YtnjmnicgknggfaaDoor.D
open Go Go.RowKit Go.Proofs.YtnjmnicgknggfaaDoorW.PrintWords Go.Proofs.YtnjmnicgknggfaaDoorW.PrintLast Go.Proofs.YtnjmnicgknggfaaDoorW.PrintMore
attribute [local go_sem] max2_int min2_int max_two min_two max_three min_three max_four min_four
open Go.Proofs.YtnjmnicgknggfaaDoorW.PrintWords.Kd renaming R_alloc → zRa, R_drewN → zRn, R_drew → zRd, V_alloc → zVa, V_drewN → zVn, V_drew → zVd, V_below → zVb, C_alloc → zCa, C_drewN → zCn, C_drew → zCd, R_mono → zRm, V_mono → zVm, at_int → zAi, R_elder' → zRe, R_lower → zRl, R_new' → zRw, R_lt → zRt, R_below → zRb, R_base → zRz, R_reads' → zRr, R_slice → zRs, V_elder' → zVe, V_lower → zVl, V_slice → zVs, V_reads' → zVr
open Go.Proofs.YtnjmnicgknggfaaDoorW.PrintWords renaming pw_below_drewN → zBn, below_alloc → zBa, below_drew1 → zBd, below_size → zBs, below_step → zBt, blk_drewN → zKn, blk_drew → zKd, blk_alloc → zKa, blk_below → zKb, blk_cell → zKc, blk_frozen → zKf
open List renaming setIfInBounds_toArray → zSa, set_cons_zero → zSb, set_cons_succ → zSc, length_drop → zLd, length_take → zLt, map_toArray → zMa, map_cons → zMc, map_nil → zMn, length_cons → zLc, length_nil → zLn
open Go.Proofs.YtnjmnicgknggfaaDoorW.PrintWords.Aside0 renaming mk → zMk
open Option renaming bind_eq_some_iff → zBi, bind_some → zOb
open Option.some renaming inj → zOi
open Int renaming toNat_natCast → zTn

def integer_Norm.f (a0_0 : Bool) (l0_1 : List Int) : Option (Bool × List Int) := (integer_signed.f a0_0 l0_1).bind fun bt315 => (some (bt315.1, bt315.2))
theorem integer_Norm.calls (a0_0 : Bool) (A0_1 : Option Addr) (c0_1 : Nat) (l0_1 : List Int) (r1 : Bool) (r2 : List Int) (w : World) (hr0_1 : Kd.C (Kd.int .u32) w A0_1 l0_1.length l0_1) (hc0_1 : l0_1.length ≤ c0_1) (h : integer_Norm.f a0_0 l0_1 = some (r1, r2)) :
  Calls Tryd.prog 47 #[.agg #[.bool a0_0, .slice A0_1 l0_1.length c0_1]] w fun e w' => ∃ v1_ : Value, e = .returned (.agg #[.bool r1, v1_]) ∧ Kd.R (Kd.int .u32) 58 w' w.heap.size (fun _ => True) v1_ r2 ∧ Below w.heap.size w w' := by
 have hu24 := Tryd.underlying24
 have HR0_1 := zMk hr0_1
 have HC0_1 := zMk hc0_1
 clear hr0_1 hc0_1
 have HB := zMk (Below.refl w.heap.size w)
 have H : ((integer_signed.f a0_0 l0_1).bind fun bt315 => (some (bt315.1, bt315.2))) = some (r1, r2) := h
 clear h
 replace H := bnd H
 obtain ⟨⟨t315, t316⟩, A20, H⟩ := H
 replace H : (some (t315, t316)) = some (r1, r2) := H
 have A2 := zMk A20
 clear A20
 simp only [Option.some.injEq, Prod.mk.injEq] at H
 obtain ⟨rfl, rfl⟩ := H
 go_enter Tryd.func47, Tryd.ntmps47
 go_wp2_with (first | ((with_reducible refine gate_dst (N:=1) rfl ?_); refine box_event ?hg (N:=1) ?hd (cs:=#[.bool a0_0, .slice A0_1 l0_1.length c0_1]) (t:=24) ?hr ?_; (case hd => rfl); (case hg => rfl); (case hr => first | (go_simp; done)|(go_simp; rfl)|(go_simp; rw [show ∀ x : Int, IntKind.u32.wrap (IntKind.u8.wrap x) = x % 256 from fun x => (by show (x % 256) % 4294967296 = x % 256; omega)])); intro gb313 hg w3 hbox hb; have BK313 := zMk (hbox); have GW313 := zMk ((by rw [hg]; exact (zBs (by exact uT HB.out)) : w.heap.size ≤ gb313)); have GE313 := zMk ((by rw [hg]; exact (zBs (by exact uT HB.out)) : w.heap.size ≤ gb313)); have IGE313 := ownGe GE313.out; replace HB := zMk (zBt (by exact uT HB.out) hb); clear hb hbox hg)|((with_reducible refine gate_dst (N:=2) rfl ?_); refine box_event ?hg (N:=2) ?hd (cs:=#[.bool false, .slice none 0 0]) (t:=24) ?hr ?_; (case hd => rfl); (case hg => rfl); (case hr => first | (go_simp; done)|(go_simp; rfl)|(go_simp; rw [show ∀ x : Int, IntKind.u32.wrap (IntKind.u8.wrap x) = x % 256 from fun x => (by show (x % 256) % 4294967296 = x % 256; omega)])); intro gb314 hg w4 hbox hb; have BK314 := zMk (hbox); have GW314 := zMk ((by rw [hg]; exact (zBs (by exact uT HB.out)) : w.heap.size ≤ gb314)); have GE314 := zMk ((by rw [hg]; exact (zBs (by exact uT HB.out)) : w.heap.size ≤ gb314)); have IGE314 := ownGe GE314.out; replace HB := zMk (zBt (by exact uT HB.out) hb); have NB313_314 := zMk ((by rw [hg]; exact Nat.ne_of_lt (blk_lt (g:=gb313) (o:=.cells #[.bool a0_0, .slice A0_1 l0_1.length c0_1] 24 (0, 0)) (by (with_reducible repeat (first |  refine zKn ?_ _|  refine zKd ?_|  refine zKa ?_ _)); exact BK313.out)) : gb313 ≠ gb314)); have NB314_313 := zMk ((by rw [hg]; exact Nat.ne_of_gt (blk_lt (g:=gb313) (o:=.cells #[.bool a0_0, .slice A0_1 l0_1.length c0_1] 24 (0, 0)) (by (with_reducible repeat (first |  refine zKn ?_ _|  refine zKd ?_|  refine zKa ?_ _)); exact BK313.out)) : gb314 ≠ gb313)); replace BK313 := zMk (zKb (g:=gb313) (o:=.cells #[.bool a0_0, .slice A0_1 l0_1.length c0_1] 24 (0, 0)) (by (with_reducible repeat (first |  refine zKn ?_ _|  refine zKd ?_|  refine zKa ?_ _)); exact BK313.out) hb); clear hb hbox hg; have hnb5 := NB313_314.out; have hnc5 := NB314_313.out; have hcz6_0 : w4.cell? ⟨gb313, 0, none⟩ = some (.bool a0_0) := (zKc BK313.out 0).trans rfl; have hcz6_1 : w4.cell? ⟨gb313, 1, none⟩ = some (.slice A0_1 l0_1.length c0_1) := (zKc BK313.out 1).trans rfl; have hfz6_0 := zKf BK313.out 0; have hfz6_1 := zKf BK313.out 1)|((with_reducible refine gate_callee (f:=36) rfl ?_); refine goesL_ (some 7) rfl rfl Tryd.func36 (by kernel_rfl) rfl #[.bool a0_0, .slice A0_1 l0_1.length c0_1] rfl (by (try simp only [zMa, zMc, zMn]); first |  done|  rfl|  (simp only [zLd, zLt]; rfl)) ?_; (with_reducible refine (integer_signed.calls a0_0 _ _ l0_1 t315 t316 _ ?side1 ?side2 A2.out).mono ?_); (case side1 => repeat (first |  exact (Kd.C_below HR0_1.out HB.out)|(with_reducible refine zCa ?_ _)|(with_reducible refine zCn ?_ _)|(with_reducible refine zCd ?_))); (case side2 => exact HC0_1.out); rintro e w7 ⟨v317, rfl, ho0, hb⟩; refine ⟨_, rfl, ?_⟩; have HO318 := zMk (zRl ho0 (zBs (by exact uT HB.out))); replace BK313 := zMk (zKb (g:=gb313) (o:=.cells #[.bool a0_0, .slice A0_1 l0_1.length c0_1] 24 (0, 0)) (by (with_reducible repeat (first |  refine zKn ?_ _|  refine zKd ?_|  refine zKa ?_ _)); exact BK313.out) hb); replace BK314 := zMk (zKb (g:=gb314) (o:=.cells #[.bool false, .slice none 0 0] 24 (0, 0)) (by (with_reducible repeat (first |  refine zKn ?_ _|  refine zKd ?_|  refine zKa ?_ _)); exact BK314.out) hb); replace HB := zMk (zBt (by exact uT HB.out) hb); have hcz8_0 : w7.cell? ⟨gb314, 0, none⟩ = some (.bool false) := (zKc BK314.out 0).trans rfl; have hcz8_1 : w7.cell? ⟨gb314, 1, none⟩ = some (.slice none 0 0) := (zKc BK314.out 1).trans rfl; have hfz8_0 := zKf BK314.out 0; have hfz8_1 := zKf BK314.out 1; obtain ⟨Ao9, co9, eo9⟩ := zRs HO318.out; subst eo9))
 refine bodyPost_ret (results_cell_row rfl _ _ gb314 24 #[.bool t315, .slice Ao9 t316.length co9] (0, 0) _ rfl (by (with_reducible repeat (first | refine zKn ?_ _ | refine zKd ?_ | refine zKa ?_ _)); refine blk_put (cs:=#[.bool t315, .slice none 0 0]) ?_ 1 _ rfl; (with_reducible repeat (first | refine zKn ?_ _ | refine zKd ?_ | refine zKa ?_ _)); refine blk_put (cs:=#[.bool false, .slice none 0 0]) ?_ 0 _ rfl; (with_reducible repeat (first | refine zKn ?_ _ | refine zKd ?_ | refine zKa ?_ _)); exact BK314.out) Tryd.underlying24 rfl (by kernel_rfl)) rfl ?_
 exact ⟨_, by first | rfl | (simp [errW_none, errW_some] <;> rfl) | (simp [*, errW_none, errW_some] <;> rfl), by (with_reducible repeat (first | apply zRa | apply zRn | apply zRd)); exact zRm (Kd.R_far (p:=⟨gb314, 1, none⟩) (Kd.R_far (p:=⟨gb314, 0, none⟩) (Kd.R_types HO318.out BK314.out (by decide)) (fun _ hk => hk.2) (.bool t315)) (fun _ hk => hk.2) (.slice Ao9 t316.length co9)) (fun _ hk => trivial), by exact uT HB.out⟩

theorem sum_l0 (x y : List Int) (hx : Bits x) (hy : Bits y) (M : Nat) (hM : M = max x.length y.length) (hM2 : M < 140737488355000) :
    ∀ (j m k : Nat) (O : List Int) (c : Int), m + j = M + 1 → O.length = m → Bits O → (c = 0 ∨ c = 1) → bval O + 2 ^ m * c = bval (x.take m) + bval (y.take m) →
    ∃ r, r1_sum.l0 (k + j + 1) x y O c (m : Int) = some r ∧ Bits r ∧ r.length = M + 1 ∧ bval r = bval x + bval y := by
  intro j
  induction j with
  | zero =>
    intro m k O c hm hO hB hc hv
    refine ⟨O, ?_, hB, by omega, ?_⟩
    · rw [r1_sum.l0, mx_nat, if_neg (by omega)]
    · rw [List.take_of_length_le (by omega), List.take_of_length_le (by omega)] at hv
      have h1 := bval_bounds hx
      have h2 := bval_bounds hy
      have hpow : ∀ {a b : Nat}, a ≤ b → (2 : Int) ^ a ≤ 2 ^ b := fun h => by
        have := Nat.pow_le_pow_right (show 0 < 2 by decide) h
        exact_mod_cast this
      have h3 := hpow (show x.length ≤ M by omega)
      have h4 := hpow (show y.length ≤ M by omega)
      have h5 : (2 : Int) ^ m = 2 ^ M * 2 := by rw [show m = M + 1 by omega, Int.pow_succ]
      have h6 := bval_bounds hB
      rcases hc with rfl | rfl
      · omega
      · omega
  | succ j ih =>
    intro m k O c hm hO hB hc hv
    have hxm := hx.getD m
    have hym := hy.getD m
    obtain ⟨s, hs⟩ : ∃ s, s = x.getD m 0 + y.getD m 0 + c := ⟨_, rfl⟩
    have hs0 : 0 ≤ s ∧ s ≤ 3 := by omega
    obtain ⟨r, h1, h2, h3, h4⟩ := ih (m + 1) k (O ++ [s % 2]) (s / 2) (by omega) (by simp [hO]) (hB.append (Bits.one (by omega))) (by omega) (by
      rw [bval_append, bval_one, bval_take_succ, bval_take_succ, hO, Int.pow_succ]
      have := Int.emod_add_mul_ediv s 2
      grind)
    refine ⟨r, ?_, h2, h3, h4⟩
    rw [show k + (j + 1) + 1 = (k + j + 1) + 1 by omega, r1_sum.l0, mx_nat, if_pos (by omega), at_f, zOb, at_f, zOb, if_pos (by omega), w64 (by omega) (by omega)]
    rw [show ((x.getD m 0 + y.getD m 0) % 256 + c) % 256 = s by omega, u8_and1 s (by omega) (by omega), show ((m : Int) + 1) = ((m + 1 : Nat) : Int) by omega]
    exact h1
theorem sum_f (x y : List Int) (hx : Bits x) (hy : Bits y) (hM : max x.length y.length < 140737488355000) (k : Nat) (hk : max x.length y.length + 2 ≤ k) :
    ∃ r, r1_sum.f k x y = some r ∧ Bits r ∧ r.length = max x.length y.length + 1 ∧ bval r = bval x + bval y := by
  obtain ⟨d, rfl⟩ : ∃ d, k = d + (max x.length y.length + 1) + 1 := ⟨k - (max x.length y.length + 2), by omega⟩
  obtain ⟨r, h1, h2, h3, h4⟩ := sum_l0 x y hx hy _ rfl hM (max x.length y.length + 1) 0 d [] 0 (by omega) rfl Bits.nil (.inl rfl) (by simp [bval])
  exact ⟨r, h1, h2, h3, h4⟩


theorem radd_f (a b : List Int) (ha : Limbs a) (hb : Limbs b) (la : a.length < 1000000) (lb : b.length < 1000000) (k : Nat) (hk : 200 * a.length + 200 * b.length + 100 ≤ k) :
    ∃ r, r1_Add.f k a b = some r ∧ IsNum r (val a + val b) := by
  unfold r1_Add.f
  have la2 := bitsOf_length a
  have lb2 := bitsOf_length b
  obtain ⟨t, h1, h2, h3, h4⟩ := sum_f (bitsOf a) (bitsOf b) (bitsOf_bits a) (bitsOf_bits b) (by omega) k (by omega)
  obtain ⟨r, h5, h6, _⟩ := limbs_f t h2 (by omega) k (by omega)
  refine ⟨r, ?_, by rw [h4, bval_bitsOf ha, bval_bitsOf hb] at h6; exact h6⟩
  rw [bits_f a ha (by omega) k (by omega), zOb, bits_f b hb (by omega) k (by omega), zOb, h1, zOb, h5]
  rfl
theorem sub_f (a b : List Int) (ha : Limbs a) (hb : Limbs b) (la : a.length < 35184372088832) (k : Nat) (hk : a.length + 1 ≤ k) :
    (val a < val b ∧ n_Sub.f k a b = some ([], 17)) ∨ (val b ≤ val a ∧ ∃ r, n_Sub.f k a b = some (r, 0) ∧ IsNum r (val a - val b) ∧ r.length ≤ a.length) := by
  unfold n_Sub.f
  rw [cmp_f a b ha hb, zOb]
  by_cases h : val a < val b
  · refine .inl ⟨h, ?_⟩
    unfold cmpI
    rw [if_pos h, if_pos (by omega)]
  · refine .inr ⟨by omega, ?_⟩
    have hc : ¬ cmpI (val a) (val b) < 0 := by
      unfold cmpI
      rw [if_neg h]
      split <;> omega
    have ca := cut_length a
    obtain ⟨d, rfl⟩ : ∃ d, k = d + (cut a).length + 1 := ⟨k - ((cut a).length + 1), by omega⟩
    obtain ⟨X, c, h1, h2, h3, h4, h5⟩ := less_l0 (cut b) (cut_limbs hb) (cut a).length (by omega) (val a) (cut a).length 0 d (cut a) 0 (by omega) rfl (cut_limbs ha) (.inl rfl) (by rw [cut_val]; simp [val])
    have hlen := cut_len_mono ha hb (by omega)
    rw [List.take_of_length_le hlen, cut_val] at h5
    have hX0 := val_nonneg h3
    have hX1 := val_lt h3
    rw [h2] at hX1
    have hc0 : c = 0 := by
      rcases h4 with rfl | rfl
      · rfl
      · rw [Int.one_mul] at h5; omega
    subst hc0
    refine ⟨cut X, ?_, ?_, by have := cut_length X; omega⟩
    · rw [if_neg hc, nnorm_f a (by omega), zOb, cut_f, zOb]
      unfold n_less.f
      rw [show ((0 : Nat) : Int) = 0 from rfl] at h1
      rw [h1, zOb, cut_f, zOb]
    · have := IsNum.cut h3
      rw [show val X = val a - val b by omega] at this
      exact this



def filigreeref02_Sub.f (k : Nat) (a0_0 : Bool) (l0_1 : List Int) (a1_0 : Bool) (l1_1 : List Int) : Option (Bool × List Int) := (filigreeref02_Neg.f k a1_0 l1_1).bind fun bt686 => ((filigreeref02_Add.f k a0_0 l0_1 bt686.1 bt686.2).bind fun bt690 => (some (bt690.1, bt690.2)))
theorem filigreeref02_Sub.calls (k : Nat) (a0_0 : Bool) (A0_1 : Option Addr) (c0_1 : Nat) (l0_1 : List Int) (a1_0 : Bool) (A1_1 : Option Addr) (c1_1 : Nat) (l1_1 : List Int) (r1 : Bool) (r2 : List Int) (w : World) (hr0_1 : Kd.C (Kd.int .u32) w A0_1 l0_1.length l0_1) (hc0_1 : l0_1.length ≤ c0_1) (hr1_1 : Kd.C (Kd.int .u32) w A1_1 l1_1.length l1_1) (hc1_1 : l1_1.length ≤ c1_1) (h : filigreeref02_Sub.f k a0_0 l0_1 a1_0 l1_1 = some (r1, r2)) :
  Calls Tryd.prog 20 #[.agg #[.bool a0_0, .slice A0_1 l0_1.length c0_1], .agg #[.bool a1_0, .slice A1_1 l1_1.length c1_1]] w fun e w' => ∃ v1_ : Value, e = .returned (.agg #[.bool r1, v1_]) ∧ Kd.R (Kd.int .u32) 58 w' w.heap.size (fun _ => True) v1_ r2 ∧ Below w.heap.size w w' := by
 have hu24 := Tryd.underlying24
 have HR0_1 := zMk hr0_1
 have HC0_1 := zMk hc0_1
 clear hr0_1 hc0_1
 have HR1_1 := zMk hr1_1
 have HC1_1 := zMk hc1_1
 clear hr1_1 hc1_1
 have HB := zMk (Below.refl w.heap.size w)
 have H : ((filigreeref02_Neg.f k a1_0 l1_1).bind fun bt686 => ((filigreeref02_Add.f k a0_0 l0_1 bt686.1 bt686.2).bind fun bt690 => (some (bt690.1, bt690.2)))) = some (r1, r2) := h
 clear h
 replace H := bnd H
 obtain ⟨⟨t686, t687⟩, A30, H⟩ := H
 replace H : ((filigreeref02_Add.f k a0_0 l0_1 t686 t687).bind fun bt690 => (some (bt690.1, bt690.2))) = some (r1, r2) := H
 have A3 := zMk A30
 clear A30
 replace H := bnd H
 obtain ⟨⟨t690, t691⟩, A40, H⟩ := H
 replace H : (some (t690, t691)) = some (r1, r2) := H
 have A4 := zMk A40
 clear A40
 simp only [Option.some.injEq, Prod.mk.injEq] at H
 obtain ⟨rfl, rfl⟩ := H
 go_enter Tryd.func20, Tryd.ntmps20
 try go_wp2_with (first | ((with_reducible refine gate_dst (N:=2) rfl ?_); refine box_event ?hg (N:=2) ?hd (cs:=#[.bool a0_0, .slice A0_1 l0_1.length c0_1]) (t:=24) ?hr ?_; (case hd => rfl); (case hg => rfl); (case hr => first | (go_simp; done)|(go_simp; rfl)|(go_simp; rw [show ∀ x : Int, IntKind.u32.wrap (IntKind.u8.wrap x) = x % 256 from fun x => (by show (x % 256) % 4294967296 = x % 256; omega)])); intro gb683 hg w5 hbox hb; have BK683 := zMk (hbox); have GW683 := zMk ((by rw [hg]; exact (zBs (uT HB.out)) : w.heap.size ≤ gb683)); have GE683 := zMk ((by rw [hg]; exact (zBs (uT HB.out)) : w.heap.size ≤ gb683)); have IGE683 := ownGe GE683.out; replace HB := zMk (zBt (uT HB.out) hb); clear hb hbox hg)|((with_reducible refine gate_dst (N:=3) rfl ?_); refine box_event ?hg (N:=3) ?hd (cs:=#[.bool a1_0, .slice A1_1 l1_1.length c1_1]) (t:=24) ?hr ?_; (case hd => rfl); (case hg => rfl); (case hr => first | (go_simp; done)|(go_simp; rfl)|(go_simp; rw [show ∀ x : Int, IntKind.u32.wrap (IntKind.u8.wrap x) = x % 256 from fun x => (by show (x % 256) % 4294967296 = x % 256; omega)])); intro gb684 hg w6 hbox hb; have BK684 := zMk (hbox); have GW684 := zMk ((by rw [hg]; exact (zBs (uT HB.out)) : w.heap.size ≤ gb684)); have GE684 := zMk ((by rw [hg]; exact (zBs (uT HB.out)) : w.heap.size ≤ gb684)); have IGE684 := ownGe GE684.out; replace HB := zMk (zBt (uT HB.out) hb); have NB683_684 := zMk ((by rw [hg]; exact Nat.ne_of_lt (blk_lt BK683.out) : gb683 ≠ gb684)); have NB684_683 := zMk ((by rw [hg]; exact Nat.ne_of_gt (blk_lt BK683.out) : gb684 ≠ gb683)); replace BK683 := zMk (zKb BK683.out hb); clear hb hbox hg)|((with_reducible refine gate_dst (N:=4) rfl ?_); refine box_event ?hg (N:=4) ?hd (cs:=#[.bool false, .slice none 0 0]) (t:=24) ?hr ?_; (case hd => rfl); (case hg => rfl); (case hr => first | (go_simp; done)|(go_simp; rfl)|(go_simp; rw [show ∀ x : Int, IntKind.u32.wrap (IntKind.u8.wrap x) = x % 256 from fun x => (by show (x % 256) % 4294967296 = x % 256; omega)])); intro gb685 hg w7 hbox hb; have BK685 := zMk (hbox); have GW685 := zMk ((by rw [hg]; exact (zBs (uT HB.out)) : w.heap.size ≤ gb685)); have GE685 := zMk ((by rw [hg]; exact (zBs (uT HB.out)) : w.heap.size ≤ gb685)); have IGE685 := ownGe GE685.out; replace HB := zMk (zBt (uT HB.out) hb); have NB683_685 := zMk ((by rw [hg]; exact Nat.ne_of_lt (blk_lt BK683.out) : gb683 ≠ gb685)); have NB685_683 := zMk ((by rw [hg]; exact Nat.ne_of_gt (blk_lt BK683.out) : gb685 ≠ gb683)); replace BK683 := zMk (zKb BK683.out hb); have NB684_685 := zMk ((by rw [hg]; exact Nat.ne_of_lt (blk_lt BK684.out) : gb684 ≠ gb685)); have NB685_684 := zMk ((by rw [hg]; exact Nat.ne_of_gt (blk_lt BK684.out) : gb685 ≠ gb684)); replace BK684 := zMk (zKb BK684.out hb); clear hb hbox hg))
 replace BK683 := zMk (zKd BK683.out)
 replace BK684 := zMk (zKd BK684.out)
 replace BK685 := zMk (zKd BK685.out)
 replace HB := zMk (zBd HB.out)
 refine start_ (n:=5) (S:=fun w' => w'.cell? ⟨gb683, 0, none⟩ = some (.bool a0_0) ∧ w'.cell? ⟨gb683, 1, none⟩ = some (.slice A0_1 l0_1.length c0_1) ∧ w'.cell? ⟨gb684, 0, none⟩ = some (.bool a1_0) ∧ w'.cell? ⟨gb684, 1, none⟩ = some (.slice A1_1 l1_1.length c1_1)) (ds:=[]) #[false,false,false,false,false] (by kernel_rfl) rfl rfl ⟨(zKc BK683.out 0).trans rfl, (zKc BK683.out 1).trans rfl, (zKc BK684.out 0).trans rfl, (zKc BK684.out 1).trans rfl⟩ (fun hHeld => ?_)
 generalize w7.drew = w8 at BK683 BK684 BK685 HB hHeld ⊢
 refine take_ (i:=0) (N:=some 5) (v:=?_) (a' := ?_) #[true,false,false,false,false] rfl rfl (by kernel_rfl) (fun _ _ _ h => h) (Or.inl ⟨by rfl, ?_⟩) hHeld ?_ ?_
 rotate_left
 ·rintro w' ⟨s0, s1, s2, s3⟩
  go_simp
  with_reducible rfl
 rotate_left
 ·simp only [Act.put, zSa, zSb, zSc, i64_w, i32_w]
  rfl
 refine take_ (i:=1) (N:=some 6) (v:=?_) (a' := ?_) #[true,true,false,false,false] rfl rfl (by kernel_rfl) (fun _ _ _ h => h) (Or.inl ⟨by rfl, ?_⟩) hHeld ?_ ?_
 rotate_left
 ·rintro w' ⟨s0, s1, s2, s3⟩
  go_simp
  with_reducible rfl
 rotate_left
 ·simp only [Act.put, zSa, zSb, zSc, i64_w, i32_w]
  rfl
 refine one_ (i:=2) (N:=some 7) #[true,true,true,false,false] rfl rfl (by kernel_rfl) (by decide) (fun K hK => ?_)
 refine goes_ Tryd.func44 (by kernel_rfl) rfl #[.agg #[.bool a1_0, .slice A1_1 l1_1.length c1_1]] (by rfl) rfl rfl (by (try simp only [zMa, zMc, zMn]); first | done | rfl | (simp only [zLd, zLt]; rfl)) ?_
 with_reducible refine (filigreeref02_Neg.calls k a1_0 _ _ l1_1 t686 t687 _ ?side1 ?side2 A3.out).mono ?_
 (case side1 => repeat (first | exact (Kd.C_below HR1_1.out HB.out) | (with_reducible refine zCa ?_ _) | (with_reducible refine zCn ?_ _) | (with_reducible refine zCd ?_)))
 (case side2 => exact HC1_1.out)
 rintro e w9 ⟨v688, rfl, ho0, hb⟩
 refine ⟨_, rfl, ?_⟩
 have HO689 := zMk (zRl ho0 (zBs (uT HB.out)))
 replace BK683 := zMk (zKb BK683.out hb)
 replace BK684 := zMk (zKb BK684.out hb)
 replace BK685 := zMk (zKb BK685.out hb)
 replace HB := zMk (zBt (uT HB.out) hb)
 obtain ⟨Ao10, co10, eo10⟩ := zRs HO689.out
 (first |  subst eo10|  (injection eo10 with f1_ f2_ f3_; have f4_ := f1_.symm; have f5_ := f3_.symm; clear f1_ f2_ f3_; subst f4_; subst f5_))
 refine hK.out _ _ ⟨(zKc BK683.out 0).trans rfl, (zKc BK683.out 1).trans rfl, (zKc BK684.out 0).trans rfl, (zKc BK684.out 1).trans rfl⟩ (fun hHeld => ?_)
 clear hK K
 refine norm_ (a' := ?_) ?_ ?_
 rotate_left
 ·show Act.put _ (some 7) _ = _
  simp only [Act.put, zSa, zSb, zSc, i64_w, i32_w]
  rfl
 refine one_ (i:=3) (N:=some 8) #[true,true,true,true,false] rfl rfl (by kernel_rfl) (by decide) (fun K hK => ?_)
 refine goes_ Tryd.func18 (by kernel_rfl) rfl #[.agg #[.bool a0_0, .slice A0_1 l0_1.length c0_1], .agg #[.bool t686, .slice Ao10 t687.length co10]] (by rfl) rfl rfl (by (try simp only [zMa, zMc, zMn]); first | done | rfl | (simp only [zLd, zLt]; rfl)) ?_
 with_reducible refine (filigreeref02_Add.calls k a0_0 _ _ l0_1 t686 _ _ t687 t690 t691 _ ?side1 ?side2 ?side3 ?side4 A4.out).mono ?_
 (case side1 => repeat (first | exact (Kd.C_below HR0_1.out HB.out) | (with_reducible refine zCa ?_ _) | (with_reducible refine zCn ?_ _) | (with_reducible refine zCd ?_)))
 (case side2 => exact HC0_1.out)
 (case side3 => exact uC (zRr HO689.out).2.2)
 (case side4 => exact (zRr HO689.out).2.1)
 rintro e w11 ⟨v692, rfl, ho0, hb⟩
 refine ⟨_, rfl, ?_⟩
 have HO693 := zMk (zRl (zRw ho0 (zRt (uR HO689.out))) (zBs (uT HB.out)))
 replace HO689 := zMk (zRe (uR HO689.out) (zRz ho0) hb)
 replace BK683 := zMk (zKb BK683.out hb)
 replace BK684 := zMk (zKb BK684.out hb)
 replace BK685 := zMk (zKb BK685.out hb)
 replace HB := zMk (zBt (uT HB.out) hb)
 obtain ⟨Ao13, co13, eo13⟩ := zRs HO693.out
 (first |  subst eo13|  (injection eo13 with f1_ f2_ f3_; have f4_ := f1_.symm; have f5_ := f3_.symm; clear f1_ f2_ f3_; subst f4_; subst f5_))
 refine hK.out _ _ ⟨(zKc BK683.out 0).trans rfl, (zKc BK683.out 1).trans rfl, (zKc BK684.out 0).trans rfl, (zKc BK684.out 1).trans rfl⟩ (fun hHeld => ?_)
 clear hK K
 refine norm_ (a' := ?_) ?_ ?_
 rotate_left
 ·show Act.put _ (some 8) _ = _
  simp only [Act.put, zSa, zSb, zSc, i64_w, i32_w]
  rfl
 refine one_ (i:=4) (N:=none) #[true,true,true,true,true] rfl rfl (by kernel_rfl) (by decide) (fun K hK => ?_)
 have hs12 : w11.cell? ⟨gb685, 0, none⟩ = some (.bool false) := (zKc BK685.out 0).trans rfl
 have hfs12 := zKf BK685.out 0
 have hns12_0 := NB683_685.out
 have hns12_1 := NB684_685.out
 have hms12_0 := NB685_683.out
 have hms12_1 := NB685_684.out
 have hs14 : w11.cell? ⟨gb685, 1, none⟩ = some (.slice none 0 0) := (zKc BK685.out 1).trans rfl
 have hfs14 := zKf BK685.out 1
 have hns14_0 := NB683_685.out
 have hns14_1 := NB684_685.out
 have hms14_0 := NB685_683.out
 have hms14_1 := NB685_684.out
 refine skip_ (w1:=?_) (by rfl) rfl ?_ ?_
 rotate_left
 ·go_simp
  rfl
 refine hK.out _ _ ⟨((cell_far (p:=⟨gb685, _, none⟩) NB683_685.out _).trans (((cell_far (p:=⟨gb685, _, none⟩) NB683_685.out _).trans (hHeld.1)))), ((cell_far (p:=⟨gb685, _, none⟩) NB683_685.out _).trans (((cell_far (p:=⟨gb685, _, none⟩) NB683_685.out _).trans (hHeld.2.1)))), ((cell_far (p:=⟨gb685, _, none⟩) NB684_685.out _).trans (((cell_far (p:=⟨gb685, _, none⟩) NB684_685.out _).trans (hHeld.2.2.1)))), ((cell_far (p:=⟨gb685, _, none⟩) NB684_685.out _).trans (((cell_far (p:=⟨gb685, _, none⟩) NB684_685.out _).trans (hHeld.2.2.2))))⟩ (fun hHeld => ?_)
 clear hK K
 refine done_ (by kernel_rfl) ?_
 try go_wp2
 refine bodyPost_ret (results_cell_row rfl _ _ gb685 24 #[.bool t690, .slice Ao13 t691.length co13] (0, 0) _ rfl (by (with_reducible repeat (first | refine zKn ?_ _ | refine zKd ?_ | refine zKa ?_ _)); refine blk_put (cs:=#[.bool t690, .slice none 0 0]) ?_ 1 _ rfl; (with_reducible repeat (first | refine zKn ?_ _ | refine zKd ?_ | refine zKa ?_ _)); refine blk_put (cs:=#[.bool false, .slice none 0 0]) ?_ 0 _ rfl; (with_reducible repeat (first | refine zKn ?_ _ | refine zKd ?_ | refine zKa ?_ _)); exact BK685.out) Tryd.underlying24 rfl (by kernel_rfl)) rfl ?_
 exact ⟨_, by first | rfl | (simp [errW_none, errW_some] <;> rfl) | (simp [*, errW_none, errW_some] <;> rfl), by (with_reducible repeat (first | apply zRa | apply zRn | apply zRd)); exact zRm (Kd.R_far (p:=⟨gb685, 1, none⟩) (Kd.R_far (p:=⟨gb685, 0, none⟩) (Kd.R_types HO693.out BK685.out (by decide)) (fun _ hk => hk.2) (.bool t690)) (fun _ hk => hk.2) (.slice Ao13 t691.length co13)) (fun _ hk => trivial), by exact uT HB.out⟩



def filigreeref02_Same.f (k : Nat) (a0_0 : Bool) (l0_1 : List Int) (a1_0 : Bool) (l1_1 : List Int) : Option (Bool) := if (a0_0 == a1_0) = true then ((r1_Same.f k l0_1 l1_1).bind fun t425 => (some t425)) else (some false)
theorem filigreeref02_Same.calls (k : Nat) (a0_0 : Bool) (A0_1 : Option Addr) (c0_1 : Nat) (l0_1 : List Int) (a1_0 : Bool) (A1_1 : Option Addr) (c1_1 : Nat) (l1_1 : List Int) (r : Bool) (w : World) (hr0_1 : Kd.C (Kd.int .u32) w A0_1 l0_1.length l0_1) (hc0_1 : l0_1.length ≤ c0_1) (hr1_1 : Kd.C (Kd.int .u32) w A1_1 l1_1.length l1_1) (hc1_1 : l1_1.length ≤ c1_1) (h : filigreeref02_Same.f k a0_0 l0_1 a1_0 l1_1 = some r) :
  Calls Tryd.prog 16 #[.agg #[.bool a0_0, .slice A0_1 l0_1.length c0_1], .agg #[.bool a1_0, .slice A1_1 l1_1.length c1_1]] w fun e w' => e = .returned (.bool r) ∧ Below w.heap.size w w' := by
 have hu24 := Tryd.underlying24
 have HR0_1 := zMk hr0_1
 have HC0_1 := zMk hc0_1
 clear hr0_1 hc0_1
 have HR1_1 := zMk hr1_1
 have HC1_1 := zMk hc1_1
 clear hr1_1 hc1_1
 have HB := zMk (Below.refl w.heap.size w)
 have H : (if (a0_0 == a1_0) = true then ((r1_Same.f k l0_1 l1_1).bind fun t425 => (some t425)) else (some false)) = some r := h
 clear h
 by_cases c3 : (a0_0 == a1_0) = true
 ·rw [if_pos c3] at H
  have c3b0 : (a0_0 == a1_0) = true := c3
  (try (have c3b1 : decide (a0_0 = a1_0) = true := by simpa using c3))
  (try (have c3b2 : (a0_0 == a1_0) = true := by simpa using c3))
  clear c3
  replace H := bnd H
  obtain ⟨t425, A40, H⟩ := H
  have A4 := zMk A40
  clear A40
  obtain rfl := zOi H
  go_enter Tryd.func16, Tryd.ntmps16
  go_wp2_with (first | ((with_reducible refine gate_dst (N:=2) rfl ?_); refine box_event ?hg (N:=2) ?hd (cs:=#[.bool a0_0, .slice A0_1 l0_1.length c0_1]) (t:=24) ?hr ?_; (case hd => rfl); (case hg => rfl); (case hr => first | (go_simp; done)|(go_simp; rfl)|(go_simp; rw [show ∀ x : Int, IntKind.u32.wrap (IntKind.u8.wrap x) = x % 256 from fun x => (by show (x % 256) % 4294967296 = x % 256; omega)])); intro gb423 hg w5 hbox hb; have BK423 := zMk (hbox); have GW423 := zMk ((by rw [hg]; exact (zBs (uT HB.out)) : w.heap.size ≤ gb423)); have GE423 := zMk ((by rw [hg]; exact (zBs (uT HB.out)) : w.heap.size ≤ gb423)); have IGE423 := ownGe GE423.out; replace HB := zMk (zBt (uT HB.out) hb); clear hb hbox hg)|((with_reducible refine gate_dst (N:=3) rfl ?_); refine box_event ?hg (N:=3) ?hd (cs:=#[.bool a1_0, .slice A1_1 l1_1.length c1_1]) (t:=24) ?hr ?_; (case hd => rfl); (case hg => rfl); (case hr => first | (go_simp; done)|(go_simp; rfl)|(go_simp; rw [show ∀ x : Int, IntKind.u32.wrap (IntKind.u8.wrap x) = x % 256 from fun x => (by show (x % 256) % 4294967296 = x % 256; omega)])); intro gb424 hg w6 hbox hb; have BK424 := zMk (hbox); have GW424 := zMk ((by rw [hg]; exact (zBs (uT HB.out)) : w.heap.size ≤ gb424)); have GE424 := zMk ((by rw [hg]; exact (zBs (uT HB.out)) : w.heap.size ≤ gb424)); have IGE424 := ownGe GE424.out; replace HB := zMk (zBt (uT HB.out) hb); have NB423_424 := zMk ((by rw [hg]; exact Nat.ne_of_lt (blk_lt BK423.out) : gb423 ≠ gb424)); have NB424_423 := zMk ((by rw [hg]; exact Nat.ne_of_gt (blk_lt BK423.out) : gb424 ≠ gb423)); replace BK423 := zMk (zKb BK423.out hb); clear hb hbox hg; have hnb7 := NB423_424.out; have hnc7 := NB424_423.out; have hcz8_0 : w6.cell? ⟨gb423, 0, none⟩ = some (.bool a0_0) := (zKc BK423.out 0).trans rfl; have hcz8_1 : w6.cell? ⟨gb423, 1, none⟩ = some (.slice A0_1 l0_1.length c0_1) := (zKc BK423.out 1).trans rfl; have hfz8_0 := zKf BK423.out 0; have hfz8_1 := zKf BK423.out 1; have hcz9_0 : w6.cell? ⟨gb424, 0, none⟩ = some (.bool a1_0) := (zKc BK424.out 0).trans rfl; have hcz9_1 : w6.cell? ⟨gb424, 1, none⟩ = some (.slice A1_1 l1_1.length c1_1) := (zKc BK424.out 1).trans rfl; have hfz9_0 := zKf BK424.out 0; have hfz9_1 := zKf BK424.out 1)|(go_at_call 40; (with_reducible refine (r1_Same.calls k _ _ l0_1 _ _ l1_1 t425 _ ?side1 ?side2 ?side3 ?side4 A4.out).mono ?_); (case side1 => repeat (first |  exact (Kd.C_below HR0_1.out HB.out)|(with_reducible refine zCa ?_ _)|(with_reducible refine zCn ?_ _)|(with_reducible refine zCd ?_))); (case side2 => exact HC0_1.out); (case side3 => repeat (first |  exact (Kd.C_below HR1_1.out HB.out)|(with_reducible refine zCa ?_ _)|(with_reducible refine zCn ?_ _)|(with_reducible refine zCd ?_))); (case side4 => exact HC1_1.out); rintro e w' ⟨rfl, ⟨nd, rfl⟩⟩))
  go_ret
  exact ⟨by first | rfl | (simp [errW_none, errW_some] <;> rfl) | (simp [*, errW_none, errW_some] <;> rfl), by exact uT HB.out⟩
 ·rw [if_neg c3] at H
  have c3b0 : (a0_0 == a1_0) = false := by simpa using c3
  (try (have c3b1 : decide (a0_0 = a1_0) = false := by simpa using c3))
  (try (have c3b2 : (a0_0 == a1_0) = false := by simpa using c3))
  (try (have c3b3 : ¬ (a0_0 = a1_0) := by simpa using c3))
  clear c3
  obtain rfl := zOi H
  go_enter Tryd.func16, Tryd.ntmps16
  go_wp2_with (first | ((with_reducible refine gate_dst (N:=2) rfl ?_); refine box_event ?hg (N:=2) ?hd (cs:=#[.bool a0_0, .slice A0_1 l0_1.length c0_1]) (t:=24) ?hr ?_; (case hd => rfl); (case hg => rfl); (case hr => first | (go_simp; done)|(go_simp; rfl)|(go_simp; rw [show ∀ x : Int, IntKind.u32.wrap (IntKind.u8.wrap x) = x % 256 from fun x => (by show (x % 256) % 4294967296 = x % 256; omega)])); intro gb423 hg w10 hbox hb; have BK423 := zMk (hbox); have GW423 := zMk ((by rw [hg]; exact (zBs (uT HB.out)) : w.heap.size ≤ gb423)); have GE423 := zMk ((by rw [hg]; exact (zBs (uT HB.out)) : w.heap.size ≤ gb423)); have IGE423 := ownGe GE423.out; replace HB := zMk (zBt (uT HB.out) hb); clear hb hbox hg)|((with_reducible refine gate_dst (N:=3) rfl ?_); refine box_event ?hg (N:=3) ?hd (cs:=#[.bool a1_0, .slice A1_1 l1_1.length c1_1]) (t:=24) ?hr ?_; (case hd => rfl); (case hg => rfl); (case hr => first | (go_simp; done)|(go_simp; rfl)|(go_simp; rw [show ∀ x : Int, IntKind.u32.wrap (IntKind.u8.wrap x) = x % 256 from fun x => (by show (x % 256) % 4294967296 = x % 256; omega)])); intro gb424 hg w11 hbox hb; have BK424 := zMk (hbox); have GW424 := zMk ((by rw [hg]; exact (zBs (uT HB.out)) : w.heap.size ≤ gb424)); have GE424 := zMk ((by rw [hg]; exact (zBs (uT HB.out)) : w.heap.size ≤ gb424)); have IGE424 := ownGe GE424.out; replace HB := zMk (zBt (uT HB.out) hb); have NB423_424 := zMk ((by rw [hg]; exact Nat.ne_of_lt (blk_lt BK423.out) : gb423 ≠ gb424)); have NB424_423 := zMk ((by rw [hg]; exact Nat.ne_of_gt (blk_lt BK423.out) : gb424 ≠ gb423)); replace BK423 := zMk (zKb BK423.out hb); clear hb hbox hg; have hnb12 := NB423_424.out; have hnc12 := NB424_423.out; have hcz13_0 : w11.cell? ⟨gb423, 0, none⟩ = some (.bool a0_0) := (zKc BK423.out 0).trans rfl; have hcz13_1 : w11.cell? ⟨gb423, 1, none⟩ = some (.slice A0_1 l0_1.length c0_1) := (zKc BK423.out 1).trans rfl; have hfz13_0 := zKf BK423.out 0; have hfz13_1 := zKf BK423.out 1; have hcz14_0 : w11.cell? ⟨gb424, 0, none⟩ = some (.bool a1_0) := (zKc BK424.out 0).trans rfl; have hcz14_1 : w11.cell? ⟨gb424, 1, none⟩ = some (.slice A1_1 l1_1.length c1_1) := (zKc BK424.out 1).trans rfl; have hfz14_0 := zKf BK424.out 0; have hfz14_1 := zKf BK424.out 1))
  go_ret
  exact ⟨by first | rfl | (simp [errW_none, errW_some] <;> rfl) | (simp [*, errW_none, errW_some] <;> rfl), by exact uT HB.out⟩

def sg (b : Bool) (v : Int) : Int := if b = true then -v else v
structure IsInt (b : Bool) (l : List Int) (z : Int) : Prop where
 num : IsNum l (z.natAbs : Int)
 neg : b = decide (z < 0)
theorem IsInt.unique {b b' : Bool} {l l' : List Int} {z : Int} (h : IsInt b l z) (h' : IsInt b' l' z) : b = b' ∧ l = l' := ⟨h.neg.trans h'.neg.symm, h.num.unique h'.num⟩
theorem IsInt.sg {b : Bool} {l : List Int} {z : Int} (h : IsInt b l z) : Go.Proofs.YtnjmnicgknggfaaDoor.D.sg b (val l) = z := by
 rw [h.num.eq, h.neg]
 unfold Go.Proofs.YtnjmnicgknggfaaDoor.D.sg
 by_cases c : z < 0
 ·rw [decide_eq_true c, if_pos rfl]; omega
 ·rw [decide_eq_false c, if_neg (by decide)]; omega
theorem pos_len {l : List Int} (h : Limbs l) (t : Trim l) : (decide ((l.length : Int) > 0)) = decide (0 < val l) := by
 rcases Classical.em (l = []) with h0 | h0
 ·subst h0; rfl
 ·have h1 := val_pos h t h0
  have h2 : 0 < l.length := List.length_pos_iff.2 h0
  rw [decide_eq_true h1, decide_eq_true (by omega)]
theorem isInt_cut (b : Bool) {l : List Int} (h : Limbs l) : IsInt (b && decide (0 < val l)) (cut l) (Go.Proofs.YtnjmnicgknggfaaDoor.D.sg b (val l)) := by
 have hn := IsNum.cut h
 have h0 := val_nonneg h
 cases b with
 | true =>
  refine ⟨?_, ?_⟩
  ·rw [show ((Go.Proofs.YtnjmnicgknggfaaDoor.D.sg true (val l)).natAbs : Int) = val l by unfold Go.Proofs.YtnjmnicgknggfaaDoor.D.sg; rw [if_pos rfl]; omega]; exact hn
  ·rw [Bool.true_and]; refine decide_eq_decide.2 ?_; unfold Go.Proofs.YtnjmnicgknggfaaDoor.D.sg; rw [if_pos rfl]; omega
 | false =>
  refine ⟨?_, ?_⟩
  ·rw [show ((Go.Proofs.YtnjmnicgknggfaaDoor.D.sg false (val l)).natAbs : Int) = val l by unfold Go.Proofs.YtnjmnicgknggfaaDoor.D.sg; rw [if_neg (by decide)]; omega]; exact hn
  ·rw [Bool.false_and]; symm; refine decide_eq_false ?_; unfold Go.Proofs.YtnjmnicgknggfaaDoor.D.sg; rw [if_neg (by decide)]; omega
theorem signed_f (b : Bool) (l : List Int) (h : Limbs l) (hl : l.length < 35184372088832) : ∃ x y, integer_signed.f b l = some (x, y) ∧ IsInt x y (sg b (val l)) ∧ y.length ≤ l.length := by
 have hn := IsNum.cut h
 refine ⟨b && decide (0 < val l), cut l, ?_, isInt_cut b h, cut_length l⟩
 unfold integer_signed.f
 rw [nnorm_f l hl, zOb, pos_len hn.limbs hn.trim, hn.eq]
 cases b with
 | true => rw [if_pos rfl, Bool.true_and]
 | false => rw [if_neg (by decide), Bool.false_and]
theorem make2_f (b : Bool) (l : List Int) (h : Limbs l) (hl : l.length < 35184372088832) (k : Nat) (hk : l.length < k) : ∃ x y, filigreeref02_make2.f k b l = some (x, y) ∧ IsInt x y (sg b (val l)) ∧ y.length ≤ l.length := by
 have hn := IsNum.cut h
 refine ⟨b && decide (0 < val l), cut l, ?_, isInt_cut b h, cut_length l⟩
 unfold filigreeref02_make2.f
 rw [norm_f l hl k hk, zOb, pos_len hn.limbs hn.trim, hn.eq]
 cases b with
 | true => rw [if_pos rfl, Bool.true_and]
 | false => rw [if_neg (by decide), Bool.false_and]
theorem sg_add (b : Bool) (x y : Int) : sg b (x + y) = sg b x + sg b y := by unfold sg; split <;> omega
theorem sg_not (b : Bool) (x : Int) : sg (!b) x = - sg b x := by cases b <;> simp [sg]
theorem sg_ne {a b : Bool} (h : (a == b) = false) (x y : Int) : sg a (x - y) = sg a x + sg b y ∧ sg b (y - x) = sg a x + sg b y := by
 cases a <;> cases b <;> simp [sg] at h ⊢ <;> omega
def TellsInt (o : Option (Bool × List Int)) (z : Int) (n : Nat) : Prop := ∃ x y, o = some (x, y) ∧ IsInt x y z ∧ y.length ≤ n
theorem len_of_num {l : List Int} {v : Int} {m : Nat} (h : IsNum l v) (hv : v < Bp m) : l.length ≤ m := len_of_lt h hv
theorem rneg_int (a : Bool) (x : List Int) (hx : Limbs x) (lx : x.length ≤ 100000) (k : Nat) (hk : 200000 ≤ k) : TellsInt (filigreeref02_Neg.f k a x) (- sg a (val x)) x.length := by
 obtain ⟨p, q, e, i, l⟩ := make2_f (!a) x hx (by omega) k (by omega)
 rw [sg_not] at i
 refine ⟨p, q, ?_, i, l⟩
 unfold filigreeref02_Neg.f
 rw [e, zOb]
theorem sum_B {x y : List Int} (hx : Limbs x) (hy : Limbs y) : val x + val y < Bp (max x.length y.length + 1) := by
 have h1 := Int.lt_of_lt_of_le (val_ltB hx) (pow_upB (Nat.le_max_left x.length y.length))
 have h2 := Int.lt_of_lt_of_le (val_ltB hy) (pow_upB (Nat.le_max_right x.length y.length))
 have h3 := Bp_pos (max x.length y.length)
 rw [Bp_succ]
 omega
theorem riadd_f (a b : Bool) (x y : List Int) (hx : Limbs x) (hy : Limbs y) (lx : x.length ≤ 500) (ly : y.length ≤ 500) (k : Nat) (hk : 300000 ≤ k) :
  TellsInt (filigreeref02_Add.f k a x b y) (sg a (val x) + sg b (val y)) (max x.length y.length + 1) := by
 unfold filigreeref02_Add.f
 have hs := sum_B hx hy
 have x0 := val_nonneg hx
 have y0 := val_nonneg hy
 by_cases c : (a == b) = true
 ·rw [if_pos c]
  obtain ⟨r, e, n⟩ := radd_f x y hx hy (by omega) (by omega) k (by omega)
  have l := len_of_num n hs
  obtain ⟨p, q, e2, i, l2⟩ := make2_f a r n.limbs (by omega) k (by omega)
  rw [n.eq, sg_add] at i
  obtain rfl : a = b := by simpa using c
  refine ⟨p, q, ?_, i, by omega⟩
  rw [e, zOb, e2, zOb]
 ·rw [if_neg c]
  have c' : (a == b) = false := by simpa using c
  rw [rcmp_f x y hx hy (by omega) (by omega) k (by omega), zOb]
  by_cases hc : val y ≤ val x
  ·have hge : cmpI (val x) (val y) ≥ 0 := by
    unfold cmpI
    rw [if_neg (by omega)]
    split <;> omega
   rw [if_pos hge]
   rcases rsub_f x y hx hy (by omega) (by omega) k (by omega) with ⟨hlt, _⟩ | ⟨_, r, e, n⟩
   ·omega
   ·have l := len_of_num n (Int.lt_of_le_of_lt (show val x - val y ≤ val x + val y by omega) hs)
    obtain ⟨p, q, e2, i, l2⟩ := make2_f a r n.limbs (by omega) k (by omega)
    rw [n.eq, (sg_ne c' (val x) (val y)).1] at i
    refine ⟨p, q, ?_, i, by omega⟩
    rw [e, zOb, e2, zOb]
  ·have hlt : ¬ cmpI (val x) (val y) ≥ 0 := by unfold cmpI; rw [if_pos (by omega)]; omega
   rw [if_neg hlt]
   rcases rsub_f y x hy hx (by omega) (by omega) k (by omega) with ⟨hlt2, _⟩ | ⟨_, r, e, n⟩
   ·omega
   ·have l := len_of_num n (Int.lt_of_le_of_lt (show val y - val x ≤ val x + val y by omega) hs)
    obtain ⟨p, q, e2, i, l2⟩ := make2_f b r n.limbs (by omega) k (by omega)
    rw [n.eq, (sg_ne c' (val x) (val y)).2] at i
    refine ⟨p, q, ?_, i, by omega⟩
    rw [e, zOb, e2, zOb]
theorem risub_f (a b : Bool) (x y : List Int) (hx : Limbs x) (hy : Limbs y) (lx : x.length ≤ 500) (ly : y.length ≤ 500) (k : Nat) (hk : 300000 ≤ k) :
  TellsInt (filigreeref02_Sub.f k a x b y) (sg a (val x) - sg b (val y)) (max x.length y.length + 1) := by
 obtain ⟨p, q, e, i, l⟩ := rneg_int b y hy (by omega) k (by omega)
 obtain ⟨p2, q2, e2, i2, l2⟩ := riadd_f a p x q hx i.num.limbs lx (by omega) k hk
 rw [i.sg] at i2
 refine ⟨p2, q2, ?_, i2, by omega⟩
 unfold filigreeref02_Sub.f
 rw [e, zOb, e2, zOb]
theorem isame_f (b : Bool) (l : List Int) (hl : l.length < 100000) (k : Nat) (hk : 100000 ≤ k) : filigreeref02_Same.f k b l b l = some true := by
 unfold filigreeref02_Same.f
 rw [if_pos (by simp), same_f l (by omega) k (by omega)]
 rfl

def integer_DivMod.j0 : Nat → List Int → List Int → Bool → Bool → List Int → Bool → List Int → Option (Bool × List Int × Bool × List Int × Int)
 | 0, _, _, _, _, _, _, _ => none
 | k + 1, x7, x8, x29, x263000, x263001, x264000, x264001 => if x29 = true then ((n_Of.f 1).bind fun t273 => ((n_Add.f k x7 t273).bind fun t276 => ((n_Sub.f k x264001 x8).bind fun bt279 => ((integer_signed.f (x263000 != x264000) t276).bind fun bt283 => ((integer_signed.f false bt279.1).bind fun bt287 => (some (bt283.1, bt283.2, bt287.1, bt287.2, 0))))))) else ((integer_signed.f (x263000 != x264000) x7).bind fun bt291 => ((integer_signed.f false x8).bind fun bt295 => (some (bt291.1, bt291.2, bt295.1, bt295.2, 0))))
def integer_DivMod.f (k : Nat) (a0_0 : Bool) (l0_1 : List Int) (a1_0 : Bool) (l1_1 : List Int) : Option (Bool × List Int × Bool × List Int × Int) := (n_DivMod.f k l0_1 l1_1).bind fun bt266 => (if bt266.2.2 = 0 then (if a0_0 = true then (integer_DivMod.j0 k bt266.1 bt266.2.1 (decide ((bt266.2.1.length : Int) > 0)) a0_0 l0_1 a1_0 l1_1) else (integer_DivMod.j0 k bt266.1 bt266.2.1 false a0_0 l0_1 a1_0 l1_1)) else (some (false, ([] : List Int), false, ([] : List Int), bt266.2.2)))
theorem integer_DivMod.calls (k : Nat) (a0_0 : Bool) (A0_1 : Option Addr) (c0_1 : Nat) (l0_1 : List Int) (a1_0 : Bool) (A1_1 : Option Addr) (c1_1 : Nat) (l1_1 : List Int) (r1 : Bool) (r2 : List Int) (r3 : Bool) (r4 : List Int) (r5 : Int) (w : World) (hr0_1 : Kd.C (Kd.int .u32) w A0_1 l0_1.length l0_1) (hc0_1 : l0_1.length ≤ c0_1) (hr1_1 : Kd.C (Kd.int .u32) w A1_1 l1_1.length l1_1) (hc1_1 : l1_1.length ≤ c1_1) (h : integer_DivMod.f k a0_0 l0_1 a1_0 l1_1 = some (r1, r2, r3, r4, r5)) :
  Calls Tryd.prog 12 #[.agg #[.bool a0_0, .slice A0_1 l0_1.length c0_1], .agg #[.bool a1_0, .slice A1_1 l1_1.length c1_1]] w fun e w' => ∃ v1_ v3_ : Value, e = .returned (.tuple #[.agg #[.bool r1, v1_], .agg #[.bool r3, v3_], .int .i64 r5]) ∧ Kd.R (Kd.int .u32) 58 w' w.heap.size (fun k_ => some k_ ≠ (v3_ : Value).ownBlock) v1_ r2 ∧ Kd.R (Kd.int .u32) 58 w' w.heap.size (fun k_ => some k_ ≠ (v1_ : Value).ownBlock) v3_ r4 ∧ Below w.heap.size w w' := by
 have hu24 := Tryd.underlying24
 have HR0_1 := zMk hr0_1
 have HC0_1 := zMk hc0_1
 clear hr0_1 hc0_1
 have HR1_1 := zMk hr1_1
 have HC1_1 := zMk hc1_1
 clear hr1_1 hc1_1
 have HB := zMk (Below.refl w.heap.size w)
 have H : ((n_DivMod.f k l0_1 l1_1).bind fun bt266 => (if bt266.2.2 = 0 then (if a0_0 = true then (integer_DivMod.j0 k bt266.1 bt266.2.1 (decide ((bt266.2.1.length : Int) > 0)) a0_0 l0_1 a1_0 l1_1) else (integer_DivMod.j0 k bt266.1 bt266.2.1 false a0_0 l0_1 a1_0 l1_1)) else (some (false, ([] : List Int), false, ([] : List Int), bt266.2.2)))) = some (r1, r2, r3, r4, r5) := h
 clear h
 replace H := bnd H
 obtain ⟨⟨t266, t269, t272⟩, A30, H⟩ := H
 replace H : (if t272 = 0 then (if a0_0 = true then (integer_DivMod.j0 k t266 t269 (decide ((t269.length : Int) > 0)) a0_0 l0_1 a1_0 l1_1) else (integer_DivMod.j0 k t266 t269 false a0_0 l0_1 a1_0 l1_1)) else (some (false, ([] : List Int), false, ([] : List Int), t272))) = some (r1, r2, r3, r4, r5) := H
 have A3 := zMk A30
 clear A30
 by_cases c4 : t272 = 0
 ·rw [if_pos c4] at H
  have c4b0 : (t272 == 0) = true := beq_iff_eq.mpr c4
  have c4b1 : (t272 != 0) = false := bne_eq_false_iff_eq.mpr c4
  clear c4
  have HC5 := zMk H
  clear H
  go_enter Tryd.func12, Tryd.ntmps12
  go_upto_region 4 with (first | ((with_reducible refine gate_dst (N:=2) rfl ?_); (try (refine gate_guard (by rfl) ?_; dsimp only)); refine box_event ?hg (N:=2) ?hd (cs:=#[.bool a0_0, .slice A0_1 l0_1.length c0_1]) (t:=24) ?hr ?_; (case hd => rfl); (case hg => rfl); (case hr => first | (go_simp; done)|(go_simp; rfl)|(go_simp; rw [show ∀ x : Int, IntKind.u32.wrap (IntKind.u8.wrap x) = x % 256 from fun x => (by show (x % 256) % 4294967296 = x % 256; omega)])); intro gb262 hg w6 hbox hb; have BK262 := zMk (hbox); have GW262 := zMk ((by rw [hg]; exact (zBs (uT HB.out)) : w.heap.size ≤ gb262)); have GE262 := zMk ((by rw [hg]; exact (zBs (uT HB.out)) : w.heap.size ≤ gb262)); have IGE262 := ownGe GE262.out; replace HB := zMk (zBt (uT HB.out) hb); clear hb hbox hg)|((with_reducible refine gate_dst (N:=3) rfl ?_); (try (refine gate_guard (by rfl) ?_; dsimp only)); refine box_event ?hg (N:=3) ?hd (cs:=#[.bool a1_0, .slice A1_1 l1_1.length c1_1]) (t:=24) ?hr ?_; (case hd => rfl); (case hg => rfl); (case hr => first | (go_simp; done)|(go_simp; rfl)|(go_simp; rw [show ∀ x : Int, IntKind.u32.wrap (IntKind.u8.wrap x) = x % 256 from fun x => (by show (x % 256) % 4294967296 = x % 256; omega)])); intro gb263 hg w7 hbox hb; have BK263 := zMk (hbox); have GW263 := zMk ((by rw [hg]; exact (zBs (uT HB.out)) : w.heap.size ≤ gb263)); have GE263 := zMk ((by rw [hg]; exact (zBs (uT HB.out)) : w.heap.size ≤ gb263)); have IGE263 := ownGe GE263.out; replace HB := zMk (zBt (uT HB.out) hb); have NB262_263 := zMk ((by rw [hg]; exact Nat.ne_of_lt (blk_lt BK262.out) : gb262 ≠ gb263)); have NB263_262 := zMk ((by rw [hg]; exact Nat.ne_of_gt (blk_lt BK262.out) : gb263 ≠ gb262)); replace BK262 := zMk (zKb BK262.out hb); clear hb hbox hg)|((with_reducible refine gate_dst (N:=4) rfl ?_); (try (refine gate_guard (by rfl) ?_; dsimp only)); refine box_event ?hg (N:=4) ?hd (cs:=#[.bool false, .slice none 0 0]) (t:=24) ?hr ?_; (case hd => rfl); (case hg => rfl); (case hr => first | (go_simp; done)|(go_simp; rfl)|(go_simp; rw [show ∀ x : Int, IntKind.u32.wrap (IntKind.u8.wrap x) = x % 256 from fun x => (by show (x % 256) % 4294967296 = x % 256; omega)])); intro gb264 hg w8 hbox hb; have BK264 := zMk (hbox); have GW264 := zMk ((by rw [hg]; exact (zBs (uT HB.out)) : w.heap.size ≤ gb264)); have GE264 := zMk ((by rw [hg]; exact (zBs (uT HB.out)) : w.heap.size ≤ gb264)); have IGE264 := ownGe GE264.out; replace HB := zMk (zBt (uT HB.out) hb); have NB262_264 := zMk ((by rw [hg]; exact Nat.ne_of_lt (blk_lt BK262.out) : gb262 ≠ gb264)); have NB264_262 := zMk ((by rw [hg]; exact Nat.ne_of_gt (blk_lt BK262.out) : gb264 ≠ gb262)); replace BK262 := zMk (zKb BK262.out hb); have NB263_264 := zMk ((by rw [hg]; exact Nat.ne_of_lt (blk_lt BK263.out) : gb263 ≠ gb264)); have NB264_263 := zMk ((by rw [hg]; exact Nat.ne_of_gt (blk_lt BK263.out) : gb264 ≠ gb263)); replace BK263 := zMk (zKb BK263.out hb); clear hb hbox hg)|((with_reducible refine gate_dst (N:=5) rfl ?_); (try (refine gate_guard (by rfl) ?_; dsimp only)); refine box_event ?hg (N:=5) ?hd (cs:=#[.bool false, .slice none 0 0]) (t:=24) ?hr ?_; (case hd => rfl); (case hg => rfl); (case hr => first | (go_simp; done)|(go_simp; rfl)|(go_simp; rw [show ∀ x : Int, IntKind.u32.wrap (IntKind.u8.wrap x) = x % 256 from fun x => (by show (x % 256) % 4294967296 = x % 256; omega)])); intro gb265 hg w9 hbox hb; have BK265 := zMk (hbox); have GW265 := zMk ((by rw [hg]; exact (zBs (uT HB.out)) : w.heap.size ≤ gb265)); have GE265 := zMk ((by rw [hg]; exact (zBs (uT HB.out)) : w.heap.size ≤ gb265)); have IGE265 := ownGe GE265.out; replace HB := zMk (zBt (uT HB.out) hb); have NB262_265 := zMk ((by rw [hg]; exact Nat.ne_of_lt (blk_lt BK262.out) : gb262 ≠ gb265)); have NB265_262 := zMk ((by rw [hg]; exact Nat.ne_of_gt (blk_lt BK262.out) : gb265 ≠ gb262)); replace BK262 := zMk (zKb BK262.out hb); have NB263_265 := zMk ((by rw [hg]; exact Nat.ne_of_lt (blk_lt BK263.out) : gb263 ≠ gb265)); have NB265_263 := zMk ((by rw [hg]; exact Nat.ne_of_gt (blk_lt BK263.out) : gb265 ≠ gb263)); replace BK263 := zMk (zKb BK263.out hb); have NB264_265 := zMk ((by rw [hg]; exact Nat.ne_of_lt (blk_lt BK264.out) : gb264 ≠ gb265)); have NB265_264 := zMk ((by rw [hg]; exact Nat.ne_of_gt (blk_lt BK264.out) : gb265 ≠ gb264)); replace BK264 := zMk (zKb BK264.out hb); clear hb hbox hg; have hnb10 := NB262_263.out; have hnc10 := NB263_262.out; have hnb11 := NB262_264.out; have hnc11 := NB264_262.out; have hnb12 := NB262_265.out; have hnc12 := NB265_262.out; have hcz13_0 : w9.cell? ⟨gb262, 0, none⟩ = some (.bool a0_0) := (zKc BK262.out 0).trans rfl; have hcz13_1 : w9.cell? ⟨gb262, 1, none⟩ = some (.slice A0_1 l0_1.length c0_1) := (zKc BK262.out 1).trans rfl; have hfz13_0 := zKf BK262.out 0; have hfz13_1 := zKf BK262.out 1; have hnb14 := NB263_264.out; have hnc14 := NB264_263.out; have hnb15 := NB263_265.out; have hnc15 := NB265_263.out; have hcz16_0 : w9.cell? ⟨gb263, 0, none⟩ = some (.bool a1_0) := (zKc BK263.out 0).trans rfl; have hcz16_1 : w9.cell? ⟨gb263, 1, none⟩ = some (.slice A1_1 l1_1.length c1_1) := (zKc BK263.out 1).trans rfl; have hfz16_0 := zKf BK263.out 0; have hfz16_1 := zKf BK263.out 1)|((with_reducible refine gate_callee (f:=32) rfl ?_); refine goesL_ (some 14) rfl rfl Tryd.func32 (by kernel_rfl) rfl #[.slice A0_1 l0_1.length c0_1, .slice A1_1 l1_1.length c1_1] rfl (by (try simp only [zMa, zMc, zMn]); first |  done|  rfl|  (simp only [zLd, zLt]; rfl)) ?_; (with_reducible refine (n_DivMod.calls k (fun k_ => k_ < w.heap.size) _ _ l0_1 (fun k_ => k_ < w.heap.size) _ _ l1_1 t266 t269 t272 _ ?side1 ?side2 A3.out).mono ?_); (case side1 => exact Kd.V_mk HC0_1.out (Kd.F_below (Kd.C_F (Kd.heap_int .u32) HR0_1.out) (uT HB.out))); (case side2 => exact Kd.V_mk HC1_1.out (Kd.F_below (Kd.C_F (Kd.heap_int .u32) HR1_1.out) (uT HB.out))); rintro e w17 ⟨v267, v270, rfl, ho0, ho1, hb⟩; refine ⟨_, rfl, ?_⟩; have HO268 := zMk (zVl (zVm (ok' := fun k_ => k_ ≠ gb262 ∧ k_ ≠ gb263 ∧ k_ ≠ gb264 ∧ k_ ≠ gb265) ho0 (fun k_ hk_ => ⟨Or.elim hk_ (fun hs_ => Or.elim hs_ (fun hs_ => fun e_ => Nat.not_le.2 hs_ (by rw [e_]; exact GW262.out)) (fun hs_ => fun e_ => Nat.not_le.2 hs_ (by rw [e_]; exact GW262.out))) (fun hn_ => (Kd.freshB (g:=gb262) (o:=.cells #[.bool a0_0, .slice A0_1 l0_1.length c0_1] 24 (0, 0)) BK262.out k_ hn_)), Or.elim hk_ (fun hs_ => Or.elim hs_ (fun hs_ => fun e_ => Nat.not_le.2 hs_ (by rw [e_]; exact GW263.out)) (fun hs_ => fun e_ => Nat.not_le.2 hs_ (by rw [e_]; exact GW263.out))) (fun hn_ => (Kd.freshB (g:=gb263) (o:=.cells #[.bool a1_0, .slice A1_1 l1_1.length c1_1] 24 (0, 0)) BK263.out k_ hn_)), Or.elim hk_ (fun hs_ => Or.elim hs_ (fun hs_ => fun e_ => Nat.not_le.2 hs_ (by rw [e_]; exact GW264.out)) (fun hs_ => fun e_ => Nat.not_le.2 hs_ (by rw [e_]; exact GW264.out))) (fun hn_ => (Kd.freshB (g:=gb264) (o:=.cells #[.bool false, .slice none 0 0] 24 (0, 0)) BK264.out k_ hn_)), Or.elim hk_ (fun hs_ => Or.elim hs_ (fun hs_ => fun e_ => Nat.not_le.2 hs_ (by rw [e_]; exact GW265.out)) (fun hs_ => fun e_ => Nat.not_le.2 hs_ (by rw [e_]; exact GW265.out))) (fun hn_ => (Kd.freshB (g:=gb265) (o:=.cells #[.bool false, .slice none 0 0] 24 (0, 0)) BK265.out k_ hn_))⟩)) (zBs (uT HB.out))); have HO271 := zMk (zVl (zVm (ok' := fun k_ => k_ ≠ gb262 ∧ k_ ≠ gb263 ∧ k_ ≠ gb264 ∧ k_ ≠ gb265) ho1 (fun k_ hk_ => ⟨Or.elim hk_ (fun hs_ => Or.elim hs_ (fun hs_ => fun e_ => Nat.not_le.2 hs_ (by rw [e_]; exact GW262.out)) (fun hs_ => fun e_ => Nat.not_le.2 hs_ (by rw [e_]; exact GW262.out))) (fun hn_ => (Kd.freshB (g:=gb262) (o:=.cells #[.bool a0_0, .slice A0_1 l0_1.length c0_1] 24 (0, 0)) BK262.out k_ hn_)), Or.elim hk_ (fun hs_ => Or.elim hs_ (fun hs_ => fun e_ => Nat.not_le.2 hs_ (by rw [e_]; exact GW263.out)) (fun hs_ => fun e_ => Nat.not_le.2 hs_ (by rw [e_]; exact GW263.out))) (fun hn_ => (Kd.freshB (g:=gb263) (o:=.cells #[.bool a1_0, .slice A1_1 l1_1.length c1_1] 24 (0, 0)) BK263.out k_ hn_)), Or.elim hk_ (fun hs_ => Or.elim hs_ (fun hs_ => fun e_ => Nat.not_le.2 hs_ (by rw [e_]; exact GW264.out)) (fun hs_ => fun e_ => Nat.not_le.2 hs_ (by rw [e_]; exact GW264.out))) (fun hn_ => (Kd.freshB (g:=gb264) (o:=.cells #[.bool false, .slice none 0 0] 24 (0, 0)) BK264.out k_ hn_)), Or.elim hk_ (fun hs_ => Or.elim hs_ (fun hs_ => fun e_ => Nat.not_le.2 hs_ (by rw [e_]; exact GW265.out)) (fun hs_ => fun e_ => Nat.not_le.2 hs_ (by rw [e_]; exact GW265.out))) (fun hn_ => (Kd.freshB (g:=gb265) (o:=.cells #[.bool false, .slice none 0 0] 24 (0, 0)) BK265.out k_ hn_))⟩)) (zBs (uT HB.out))); replace BK262 := zMk (zKb BK262.out hb); replace BK263 := zMk (zKb BK263.out hb); replace BK264 := zMk (zKb BK264.out hb); replace BK265 := zMk (zKb BK265.out hb); replace HB := zMk (zBt (uT HB.out) hb)))
  (try simp only [Act.put, zSa, zSb, zSc])
  go_cut [29] (fun v29 wc => ∃ (kq : Nat) (x29_4 : Bool), v29 = .bool x29_4 ∧ Aside0 (integer_DivMod.j0 kq t266 t269 x29_4 a0_0 l0_1 a1_0 l1_1 = some (r1, r2, r3, r4, r5)) ∧ Aside0 (kq ≤ k) ∧ Aside0 (Kd.V (Kd.int .u32) 58 wc w.heap.size (fun k_ => k_ ≠ gb262 ∧ k_ ≠ gb263 ∧ k_ ≠ gb264 ∧ k_ ≠ gb265) v267 t266) ∧ Aside0 (Kd.V (Kd.int .u32) 58 wc w.heap.size (fun k_ => k_ ≠ gb262 ∧ k_ ≠ gb263 ∧ k_ ≠ gb264 ∧ k_ ≠ gb265) v270 t269) ∧ Aside0 (wc.heap[gb262]? = some (.cells #[.bool a0_0, (.slice A0_1 l0_1.length c0_1)] 24 (0, 0))) ∧ Aside0 (wc.heap[gb263]? = some (.cells #[.bool a1_0, (.slice A1_1 l1_1.length c1_1)] 24 (0, 0))) ∧ Aside0 (wc.heap[gb264]? = some (.cells #[.bool false, (.slice none 0 0)] 24 (0, 0))) ∧ Aside0 (wc.heap[gb265]? = some (.cells #[.bool false, (.slice none 0 0)] 24 (0, 0))) ∧ Aside0 (Below w.heap.size w wc))
  case first =>
   have H := HC5.out
   clear HC5
   by_cases c18 : a0_0 = true
   ·subst c18
    replace H : (integer_DivMod.j0 k t266 t269 (decide ((t269.length : Int) > 0)) true l0_1 a1_0 l1_1) = some (r1, r2, r3, r4, r5) := by rw [if_pos rfl] at H; exact H
    have H' := zMk H
    clear H
    have hnb19 := NB262_263.out
    have hnc19 := NB263_262.out
    have hnb20 := NB262_264.out
    have hnc20 := NB264_262.out
    have hnb21 := NB262_265.out
    have hnc21 := NB265_262.out
    have hcz22_0 : w17.cell? ⟨gb262, 0, none⟩ = some (.bool true) := (zKc BK262.out 0).trans rfl
    have hcz22_1 : w17.cell? ⟨gb262, 1, none⟩ = some (.slice A0_1 l0_1.length c0_1) := (zKc BK262.out 1).trans rfl
    have hfz22_0 := zKf BK262.out 0
    have hfz22_1 := zKf BK262.out 1
    obtain ⟨Ao23, co23, eo23⟩ := zVs HO271.out
    subst eo23
    go_wp2
    go_meet
    case rel => exact ⟨_, (decide ((t269.length : Int) > 0)), (by first | rfl | (simp; done) | (simp [*]; done)), H', ⟨by first | omega | exact Nat.le_refl _⟩, ⟨by exact uV HO268.out⟩, ⟨by exact uV HO271.out⟩, ⟨by (with_reducible repeat (first | refine zKn ?_ _ | refine zKd ?_ | refine zKa ?_ _)); exact BK262.out⟩, ⟨by (with_reducible repeat (first | refine zKn ?_ _ | refine zKd ?_ | refine zKa ?_ _)); exact BK263.out⟩, ⟨by (with_reducible repeat (first | refine zKn ?_ _ | refine zKd ?_ | refine zKa ?_ _)); exact BK264.out⟩, ⟨by (with_reducible repeat (first | refine zKn ?_ _ | refine zKd ?_ | refine zKa ?_ _)); exact BK265.out⟩, ⟨by exact uT HB.out⟩⟩
   ·replace c18 := Bool.eq_false_iff.mpr c18
    subst c18
    replace H : (integer_DivMod.j0 k t266 t269 false false l0_1 a1_0 l1_1) = some (r1, r2, r3, r4, r5) := by rw [if_neg (show ¬ (false = true) by decide)] at H; exact H
    have H' := zMk H
    clear H
    have hnb24 := NB262_263.out
    have hnc24 := NB263_262.out
    have hnb25 := NB262_264.out
    have hnc25 := NB264_262.out
    have hnb26 := NB262_265.out
    have hnc26 := NB265_262.out
    have hcz27_0 : w17.cell? ⟨gb262, 0, none⟩ = some (.bool false) := (zKc BK262.out 0).trans rfl
    have hcz27_1 : w17.cell? ⟨gb262, 1, none⟩ = some (.slice A0_1 l0_1.length c0_1) := (zKc BK262.out 1).trans rfl
    have hfz27_0 := zKf BK262.out 0
    have hfz27_1 := zKf BK262.out 1
    go_wp2
    go_meet
    case rel => exact ⟨_, (false), (by first | rfl | (simp; done) | (simp [*]; done)), H', ⟨by first | omega | exact Nat.le_refl _⟩, ⟨by exact uV HO268.out⟩, ⟨by exact uV HO271.out⟩, ⟨by (with_reducible repeat (first | refine zKn ?_ _ | refine zKd ?_ | refine zKa ?_ _)); exact BK262.out⟩, ⟨by (with_reducible repeat (first | refine zKn ?_ _ | refine zKd ?_ | refine zKa ?_ _)); exact BK263.out⟩, ⟨by (with_reducible repeat (first | refine zKn ?_ _ | refine zKd ?_ | refine zKa ?_ _)); exact BK264.out⟩, ⟨by (with_reducible repeat (first | refine zKn ?_ _ | refine zKd ?_ | refine zKa ?_ _)); exact BK265.out⟩, ⟨by exact uT HB.out⟩⟩
  case rest =>
   clear HC5
   obtain ⟨kq, x29_4, rfl, HA, HJ4, HO_7, HO_8, BK262, BK263, BK264, BK265, HB⟩ := hcut
   rcases kq with _ | kj4
   ·exact absurd HA.out (by simp [integer_DivMod.j0])
   have H := HA.out
   clear HA
   simp only [integer_DivMod.j0] at H
   by_cases c28 : x29_4 = true
   ·subst c28
    replace H : ((n_Of.f 1).bind fun t273 => ((n_Add.f kj4 t266 t273).bind fun t276 => ((n_Sub.f kj4 l1_1 t269).bind fun bt279 => ((integer_signed.f (a0_0 != a1_0) t276).bind fun bt283 => ((integer_signed.f false bt279.1).bind fun bt287 => (some (bt283.1, bt283.2, bt287.1, bt287.2, 0))))))) = some (r1, r2, r3, r4, r5) := by rw [if_pos rfl] at H; exact H
    replace H := bnd H
    obtain ⟨t273, A290, H⟩ := H
    have A29 := zMk A290
    clear A290
    replace H := bnd H
    obtain ⟨t276, A300, H⟩ := H
    have A30 := zMk A300
    clear A300
    replace H := bnd H
    obtain ⟨⟨t279, t282⟩, A310, H⟩ := H
    replace H : ((integer_signed.f (a0_0 != a1_0) t276).bind fun bt283 => ((integer_signed.f false t279).bind fun bt287 => (some (bt283.1, bt283.2, bt287.1, bt287.2, 0)))) = some (r1, r2, r3, r4, r5) := H
    have A31 := zMk A310
    clear A310
    replace H := bnd H
    obtain ⟨⟨t283, t284⟩, A320, H⟩ := H
    replace H : ((integer_signed.f false t279).bind fun bt287 => (some (t283, t284, bt287.1, bt287.2, 0))) = some (r1, r2, r3, r4, r5) := H
    have A32 := zMk A320
    clear A320
    replace H := bnd H
    obtain ⟨⟨t287, t288⟩, A330, H⟩ := H
    replace H : (some (t283, t284, t287, t288, 0)) = some (r1, r2, r3, r4, r5) := H
    have A33 := zMk A330
    clear A330
    simp only [Option.some.injEq, Prod.mk.injEq] at H
    obtain ⟨rfl, rfl, rfl, rfl, rfl⟩ := H
    go_wp2_with (first | ((with_reducible refine gate_callee (f:=34) rfl ?_); refine goesL_ (some 31) rfl rfl Tryd.func34 (by kernel_rfl) rfl #[.int .u64 1] rfl (by (try simp only [zMa, zMc, zMn]); first |  done|  rfl|  (simp only [zLd, zLt]; rfl)) ?_; (with_reducible refine (n_Of.calls 1 t273 _ A29.out).mono ?_); rintro e w34 ⟨v274, rfl, ho0, hb⟩; refine ⟨_, rfl, ?_⟩; replace HO_7 := zMk (zVb (uV HO_7.out) hb); replace HO_8 := zMk (zVb (uV HO_8.out) hb); have HO275 := zMk (zVl (zVm (ok' := fun k_ => k_ ≠ gb262 ∧ k_ ≠ gb263 ∧ k_ ≠ gb264 ∧ k_ ≠ gb265) ho0 (fun k_ hk_ => ⟨(Kd.freshB (g:=gb262) (o:=.cells #[.bool a0_0, .slice A0_1 l0_1.length c0_1] 24 (0, 0)) BK262.out k_ hk_), (Kd.freshB (g:=gb263) (o:=.cells #[.bool a1_0, .slice A1_1 l1_1.length c1_1] 24 (0, 0)) BK263.out k_ hk_), (Kd.freshB (g:=gb264) (o:=.cells #[.bool false, .slice none 0 0] 24 (0, 0)) BK264.out k_ hk_), (Kd.freshB (g:=gb265) (o:=.cells #[.bool false, .slice none 0 0] 24 (0, 0)) BK265.out k_ hk_)⟩)) (zBs (uT HB.out))); replace BK262 := zMk (zKb BK262.out hb); replace BK263 := zMk (zKb BK263.out hb); replace BK264 := zMk (zKb BK264.out hb); replace BK265 := zMk (zKb BK265.out hb); replace HB := zMk (zBt (uT HB.out) hb); obtain ⟨Ao35, co35, eo35⟩ := zVs HO_7.out; subst eo35; obtain ⟨Ao36, co36, eo36⟩ := zVs HO275.out; subst eo36)|((with_reducible refine gate_callee (f:=33) rfl ?_); refine goesL_ (some 32) rfl rfl Tryd.func33 (by kernel_rfl) rfl #[.slice Ao35 t266.length co35, .slice Ao36 t273.length co36] rfl (by (try simp only [zMa, zMc, zMn]); first |  done|  rfl|  (simp only [zLd, zLt]; rfl)) ?_; (with_reducible refine (n_Add.calls kj4 (fun k_ => (k_ ≠ gb262 ∧ (k_ ≠ gb263 ∧ (k_ ≠ gb264 ∧ k_ ≠ gb265)))) _ _ t266 (fun k_ => (k_ ≠ gb262 ∧ (k_ ≠ gb263 ∧ (k_ ≠ gb264 ∧ k_ ≠ gb265)))) _ _ t273 t276 _ ?side1 ?side2 A30.out).mono ?_); (case side1 => exact HO_7.out); (case side2 => exact HO275.out); rintro e w37 ⟨v277, rfl, ho0, hb⟩; refine ⟨_, rfl, ?_⟩; replace HO_7 := zMk (zVb (uV HO_7.out) hb); replace HO_8 := zMk (zVb (uV HO_8.out) hb); replace HO275 := zMk (zVb (uV HO275.out) hb); have HO278 := zMk (zVl (zVm (ok' := fun k_ => k_ ≠ gb262 ∧ k_ ≠ gb263 ∧ k_ ≠ gb264 ∧ k_ ≠ gb265) ho0 (fun k_ hk_ => ⟨Or.elim hk_ (fun hs_ => Or.elim hs_ (fun hs_ => hs_.1) (fun hs_ => hs_.1)) (fun hn_ => (Kd.freshB (g:=gb262) (o:=.cells #[.bool a0_0, .slice A0_1 l0_1.length c0_1] 24 (0, 0)) BK262.out k_ hn_)), Or.elim hk_ (fun hs_ => Or.elim hs_ (fun hs_ => hs_.2.1) (fun hs_ => hs_.2.1)) (fun hn_ => (Kd.freshB (g:=gb263) (o:=.cells #[.bool a1_0, .slice A1_1 l1_1.length c1_1] 24 (0, 0)) BK263.out k_ hn_)), Or.elim hk_ (fun hs_ => Or.elim hs_ (fun hs_ => hs_.2.2.1) (fun hs_ => hs_.2.2.1)) (fun hn_ => (Kd.freshB (g:=gb264) (o:=.cells #[.bool false, .slice none 0 0] 24 (0, 0)) BK264.out k_ hn_)), Or.elim hk_ (fun hs_ => Or.elim hs_ (fun hs_ => hs_.2.2.2) (fun hs_ => hs_.2.2.2)) (fun hn_ => (Kd.freshB (g:=gb265) (o:=.cells #[.bool false, .slice none 0 0] 24 (0, 0)) BK265.out k_ hn_))⟩)) (zBs (uT HB.out))); replace BK262 := zMk (zKb BK262.out hb); replace BK263 := zMk (zKb BK263.out hb); replace BK264 := zMk (zKb BK264.out hb); replace BK265 := zMk (zKb BK265.out hb); replace HB := zMk (zBt (uT HB.out) hb); have hnb38 := NB263_262.out; have hnc38 := NB262_263.out; have hnb39 := NB263_264.out; have hnc39 := NB264_263.out; have hnb40 := NB263_265.out; have hnc40 := NB265_263.out; have hcz41_0 : w37.cell? ⟨gb263, 0, none⟩ = some (.bool a1_0) := (zKc BK263.out 0).trans rfl; have hcz41_1 : w37.cell? ⟨gb263, 1, none⟩ = some (.slice A1_1 l1_1.length c1_1) := (zKc BK263.out 1).trans rfl; have hfz41_0 := zKf BK263.out 0; have hfz41_1 := zKf BK263.out 1; obtain ⟨Ao42, co42, eo42⟩ := zVs HO_8.out; subst eo42)|((with_reducible refine gate_callee (f:=35) rfl ?_); refine goesL_ (some 37) rfl rfl Tryd.func35 (by kernel_rfl) rfl #[.slice A1_1 l1_1.length c1_1, .slice Ao42 t269.length co42] rfl (by (try simp only [zMa, zMc, zMn]); first |  done|  rfl|  (simp only [zLd, zLt]; rfl)) ?_; (with_reducible refine (n_Sub.calls kj4 _ _ l1_1 (fun k_ => (k_ ≠ gb262 ∧ (k_ ≠ gb263 ∧ (k_ ≠ gb264 ∧ k_ ≠ gb265)))) _ _ t269 t279 t282 _ ?side1 ?side2 ?side3 A31.out).mono ?_); (case side1 => repeat (first |  exact (Kd.C_below HR1_1.out HB.out)|(with_reducible refine zCa ?_ _)|(with_reducible refine zCn ?_ _)|(with_reducible refine zCd ?_))); (case side2 => exact HC1_1.out); (case side3 => exact HO_8.out); rintro e w43 ⟨v280, rfl, ho0, hb⟩; refine ⟨_, rfl, ?_⟩; replace HO_7 := zMk (zVb (uV HO_7.out) hb); replace HO_8 := zMk (zVb (uV HO_8.out) hb); replace HO275 := zMk (zVb (uV HO275.out) hb); replace HO278 := zMk (zVb (uV HO278.out) hb); have HO281 := zMk (zVl (zVm (ok' := fun k_ => k_ ≠ gb262 ∧ k_ ≠ gb263 ∧ k_ ≠ gb264 ∧ k_ ≠ gb265) ho0 (fun k_ hk_ => ⟨Or.elim hk_ (fun hs_ => hs_.1) (fun hn_ => (Kd.freshB (g:=gb262) (o:=.cells #[.bool a0_0, .slice A0_1 l0_1.length c0_1] 24 (0, 0)) BK262.out k_ hn_)), Or.elim hk_ (fun hs_ => hs_.2.1) (fun hn_ => (Kd.freshB (g:=gb263) (o:=.cells #[.bool a1_0, .slice A1_1 l1_1.length c1_1] 24 (0, 0)) BK263.out k_ hn_)), Or.elim hk_ (fun hs_ => hs_.2.2.1) (fun hn_ => (Kd.freshB (g:=gb264) (o:=.cells #[.bool false, .slice none 0 0] 24 (0, 0)) BK264.out k_ hn_)), Or.elim hk_ (fun hs_ => hs_.2.2.2) (fun hn_ => (Kd.freshB (g:=gb265) (o:=.cells #[.bool false, .slice none 0 0] 24 (0, 0)) BK265.out k_ hn_))⟩)) (zBs (uT HB.out))); replace BK262 := zMk (zKb BK262.out hb); replace BK263 := zMk (zKb BK263.out hb); replace BK264 := zMk (zKb BK264.out hb); replace BK265 := zMk (zKb BK265.out hb); replace HB := zMk (zBt (uT HB.out) hb); have hnb44 := NB262_264.out; have hnc44 := NB264_262.out; have hnb45 := NB262_265.out; have hnc45 := NB265_262.out; have hcz46_0 : w43.cell? ⟨gb262, 0, none⟩ = some (.bool a0_0) := (zKc BK262.out 0).trans rfl; have hcz46_1 : w43.cell? ⟨gb262, 1, none⟩ = some (.slice A0_1 l0_1.length c0_1) := (zKc BK262.out 1).trans rfl; have hfz46_0 := zKf BK262.out 0; have hfz46_1 := zKf BK262.out 1; have hcz47_0 : w43.cell? ⟨gb263, 0, none⟩ = some (.bool a1_0) := (zKc BK263.out 0).trans rfl; have hcz47_1 : w43.cell? ⟨gb263, 1, none⟩ = some (.slice A1_1 l1_1.length c1_1) := (zKc BK263.out 1).trans rfl; have hfz47_0 := zKf BK263.out 0; have hfz47_1 := zKf BK263.out 1; obtain ⟨Ao48, co48, eo48⟩ := zVs HO278.out; subst eo48)|((with_reducible refine gate_callee (f:=36) rfl ?_); refine goesL_ (some 46) rfl rfl Tryd.func36 (by kernel_rfl) rfl #[.bool (a0_0 != a1_0), .slice Ao48 t276.length co48] rfl (by (try simp only [zMa, zMc, zMn]); first |  done|  rfl|  (simp only [zLd, zLt]; rfl)) ?_; (with_reducible refine (integer_signed.calls (a0_0 != a1_0) _ _ t276 t283 t284 _ ?side1 ?side2 A32.out).mono ?_); (case side1 => exact uC (zVr HO278.out).2.2); (case side2 => exact (zVr HO278.out).2.1); rintro e w49 ⟨v285, rfl, ho0, hb⟩; refine ⟨_, rfl, ?_⟩; replace HO_7 := zMk (zVe (uV HO_7.out) (zRz ho0) hb); replace HO_8 := zMk (zVe (uV HO_8.out) (zRz ho0) hb); replace HO275 := zMk (zVe (uV HO275.out) (zRz ho0) hb); replace HO278 := zMk (zVe (uV HO278.out) (zRz ho0) hb); replace HO281 := zMk (zVe (uV HO281.out) (zRz ho0) hb); have HO286 := zMk (zRl ho0 (zBs (uT HB.out))); replace BK262 := zMk (zKb BK262.out hb); replace BK263 := zMk (zKb BK263.out hb); replace BK264 := zMk (zKb BK264.out hb); replace BK265 := zMk (zKb BK265.out hb); replace HB := zMk (zBt (uT HB.out) hb); obtain ⟨Ao50, co50, eo50⟩ := zVs HO281.out; subst eo50)|((with_reducible refine gate_callee (f:=36) rfl ?_); refine goesL_ (some 48) rfl rfl Tryd.func36 (by kernel_rfl) rfl #[.bool false, .slice Ao50 t279.length co50] rfl (by (try simp only [zMa, zMc, zMn]); first |  done|  rfl|  (simp only [zLd, zLt]; rfl)) ?_; (with_reducible refine (integer_signed.calls false _ _ t279 t287 t288 _ ?side1 ?side2 A33.out).mono ?_); (case side1 => exact uC (zVr HO281.out).2.2); (case side2 => exact (zVr HO281.out).2.1); rintro e w51 ⟨v289, rfl, ho0, hb⟩; refine ⟨_, rfl, ?_⟩; replace HO_7 := zMk (zVe (uV HO_7.out) (zRz ho0) hb); replace HO_8 := zMk (zVe (uV HO_8.out) (zRz ho0) hb); replace HO275 := zMk (zVe (uV HO275.out) (zRz ho0) hb); replace HO278 := zMk (zVe (uV HO278.out) (zRz ho0) hb); replace HO281 := zMk (zVe (uV HO281.out) (zRz ho0) hb); have HO290 := zMk (zRl (zRw ho0 (zRt (uR HO286.out))) (zBs (uT HB.out))); replace HO286 := zMk (zRe (uR HO286.out) (zRz ho0) hb); replace BK262 := zMk (zKb BK262.out hb); replace BK263 := zMk (zKb BK263.out hb); replace BK264 := zMk (zKb BK264.out hb); replace BK265 := zMk (zKb BK265.out hb); replace HB := zMk (zBt (uT HB.out) hb); have hnb52 := NB264_265.out; have hnc52 := NB265_264.out; have hcz53_0 : w51.cell? ⟨gb264, 0, none⟩ = some (.bool false) := (zKc BK264.out 0).trans rfl; have hcz53_1 : w51.cell? ⟨gb264, 1, none⟩ = some (.slice none 0 0) := (zKc BK264.out 1).trans rfl; have hfz53_0 := zKf BK264.out 0; have hfz53_1 := zKf BK264.out 1; obtain ⟨Ao54, co54, eo54⟩ := zRs HO286.out; subst eo54; have hcz55_0 : w51.cell? ⟨gb265, 0, none⟩ = some (.bool false) := (zKc BK265.out 0).trans rfl; have hcz55_1 : w51.cell? ⟨gb265, 1, none⟩ = some (.slice none 0 0) := (zKc BK265.out 1).trans rfl; have hfz55_0 := zKf BK265.out 0; have hfz55_1 := zKf BK265.out 1; obtain ⟨Ao56, co56, eo56⟩ := zRs HO290.out; subst eo56))
    refine bodyPost_ret (results_list (rs:=[.cell 4 24, .cell 5 24, .tmp 6]) rfl (by simp) (.cell gb264 24 #[.bool t283, .slice Ao54 t284.length co54] (0, 0) _ rfl (by (with_reducible repeat (first | refine zKn ?_ _ | refine zKd ?_ | refine zKa ?_ _)); refine blk_far ?_ NB264_265.out _; (with_reducible repeat (first | refine zKn ?_ _ | refine zKd ?_ | refine zKa ?_ _)); refine blk_far ?_ NB264_265.out _; (with_reducible repeat (first | refine zKn ?_ _ | refine zKd ?_ | refine zKa ?_ _)); refine blk_put (cs:=#[.bool t283, .slice none 0 0]) ?_ 1 _ rfl; (with_reducible repeat (first | refine zKn ?_ _ | refine zKd ?_ | refine zKa ?_ _)); refine blk_put (cs:=#[.bool false, .slice none 0 0]) ?_ 0 _ rfl; (with_reducible repeat (first | refine zKn ?_ _ | refine zKd ?_ | refine zKa ?_ _)); exact BK264.out) Tryd.underlying24 rfl (by kernel_rfl) (.cell gb265 24 #[.bool t287, .slice Ao56 t288.length co56] (0, 0) _ rfl (by (with_reducible repeat (first | refine zKn ?_ _ | refine zKd ?_ | refine zKa ?_ _)); refine blk_put (cs:=#[.bool t287, .slice none 0 0]) ?_ 1 _ rfl; (with_reducible repeat (first | refine zKn ?_ _ | refine zKd ?_ | refine zKa ?_ _)); refine blk_put (cs:=#[.bool false, .slice none 0 0]) ?_ 0 _ rfl; (with_reducible repeat (first | refine zKn ?_ _ | refine zKd ?_ | refine zKa ?_ _)); refine blk_far ?_ NB265_264.out _; (with_reducible repeat (first | refine zKn ?_ _ | refine zKd ?_ | refine zKa ?_ _)); refine blk_far ?_ NB265_264.out _; (with_reducible repeat (first | refine zKn ?_ _ | refine zKd ?_ | refine zKa ?_ _)); exact BK265.out) Tryd.underlying24 rfl (by kernel_rfl) (.tmp .nil)))) rfl ?_
    exact ⟨_, _, by first | rfl | (simp [errW_none, errW_some] <;> rfl) | (simp [*, errW_none, errW_some] <;> rfl), by (with_reducible repeat (first | apply zRa | apply zRn | apply zRd)); exact zRm (Kd.R_far (p:=⟨gb265, 1, none⟩) (Kd.R_far (p:=⟨gb265, 0, none⟩) (Kd.R_far (p:=⟨gb264, 1, none⟩) (Kd.R_far (p:=⟨gb264, 0, none⟩) (Kd.R_types (Kd.R_types HO286.out BK264.out (by decide)) BK265.out (by decide)) (fun _ hk => hk.1.2) (.bool t283)) (fun _ hk => hk.1.2) (.slice Ao54 t284.length co54)) (fun _ hk => hk.2) (.bool t287)) (fun _ hk => hk.2) (.slice Ao56 t288.length co56)) (fun _ hk => hk.1.1.2), by (with_reducible repeat (first | apply zRa | apply zRn | apply zRd)); exact zRm (Kd.R_far (p:=⟨gb265, 1, none⟩) (Kd.R_far (p:=⟨gb265, 0, none⟩) (Kd.R_far (p:=⟨gb264, 1, none⟩) (Kd.R_far (p:=⟨gb264, 0, none⟩) (Kd.R_types (Kd.R_types HO290.out BK264.out (by decide)) BK265.out (by decide)) (fun _ hk => hk.1.2) (.bool t283)) (fun _ hk => hk.1.2) (.slice Ao54 t284.length co54)) (fun _ hk => hk.2) (.bool t287)) (fun _ hk => hk.2) (.slice Ao56 t288.length co56)) (fun _ hk => hk.1.1.2), by exact uT HB.out⟩
   ·replace c28 := Bool.eq_false_iff.mpr c28
    subst c28
    replace H : ((integer_signed.f (a0_0 != a1_0) t266).bind fun bt291 => ((integer_signed.f false t269).bind fun bt295 => (some (bt291.1, bt291.2, bt295.1, bt295.2, 0)))) = some (r1, r2, r3, r4, r5) := by rw [if_neg (show ¬ (false = true) by decide)] at H; exact H
    replace H := bnd H
    obtain ⟨⟨t291, t292⟩, A570, H⟩ := H
    replace H : ((integer_signed.f false t269).bind fun bt295 => (some (t291, t292, bt295.1, bt295.2, 0))) = some (r1, r2, r3, r4, r5) := H
    have A57 := zMk A570
    clear A570
    replace H := bnd H
    obtain ⟨⟨t295, t296⟩, A580, H⟩ := H
    replace H : (some (t291, t292, t295, t296, 0)) = some (r1, r2, r3, r4, r5) := H
    have A58 := zMk A580
    clear A580
    simp only [Option.some.injEq, Prod.mk.injEq] at H
    obtain ⟨rfl, rfl, rfl, rfl, rfl⟩ := H
    have hnb59 := NB262_263.out
    have hnc59 := NB263_262.out
    have hnb60 := NB262_264.out
    have hnc60 := NB264_262.out
    have hnb61 := NB262_265.out
    have hnc61 := NB265_262.out
    have hcz62_0 : wc.cell? ⟨gb262, 0, none⟩ = some (.bool a0_0) := (zKc BK262.out 0).trans rfl
    have hcz62_1 : wc.cell? ⟨gb262, 1, none⟩ = some (.slice A0_1 l0_1.length c0_1) := (zKc BK262.out 1).trans rfl
    have hfz62_0 := zKf BK262.out 0
    have hfz62_1 := zKf BK262.out 1
    have hnb63 := NB263_264.out
    have hnc63 := NB264_263.out
    have hnb64 := NB263_265.out
    have hnc64 := NB265_263.out
    have hcz65_0 : wc.cell? ⟨gb263, 0, none⟩ = some (.bool a1_0) := (zKc BK263.out 0).trans rfl
    have hcz65_1 : wc.cell? ⟨gb263, 1, none⟩ = some (.slice A1_1 l1_1.length c1_1) := (zKc BK263.out 1).trans rfl
    have hfz65_0 := zKf BK263.out 0
    have hfz65_1 := zKf BK263.out 1
    obtain ⟨Ao66, co66, eo66⟩ := zVs HO_7.out
    subst eo66
    go_wp2_with (first | ((with_reducible refine gate_callee (f:=36) rfl ?_); refine goesL_ (some 46) rfl rfl Tryd.func36 (by kernel_rfl) rfl #[.bool (a0_0 != a1_0), .slice Ao66 t266.length co66] rfl (by (try simp only [zMa, zMc, zMn]); first |  done|  rfl|  (simp only [zLd, zLt]; rfl)) ?_; (with_reducible refine (integer_signed.calls (a0_0 != a1_0) _ _ t266 t291 t292 _ ?side1 ?side2 A57.out).mono ?_); (case side1 => exact uC (zVr HO_7.out).2.2); (case side2 => exact (zVr HO_7.out).2.1); rintro e w67 ⟨v293, rfl, ho0, hb⟩; refine ⟨_, rfl, ?_⟩; replace HO_7 := zMk (zVe (uV HO_7.out) (zRz ho0) hb); replace HO_8 := zMk (zVe (uV HO_8.out) (zRz ho0) hb); have HO294 := zMk (zRl ho0 (zBs (uT HB.out))); replace BK262 := zMk (zKb BK262.out hb); replace BK263 := zMk (zKb BK263.out hb); replace BK264 := zMk (zKb BK264.out hb); replace BK265 := zMk (zKb BK265.out hb); replace HB := zMk (zBt (uT HB.out) hb); obtain ⟨Ao68, co68, eo68⟩ := zVs HO_8.out; subst eo68)|((with_reducible refine gate_callee (f:=36) rfl ?_); refine goesL_ (some 48) rfl rfl Tryd.func36 (by kernel_rfl) rfl #[.bool false, .slice Ao68 t269.length co68] rfl (by (try simp only [zMa, zMc, zMn]); first |  done|  rfl|  (simp only [zLd, zLt]; rfl)) ?_; (with_reducible refine (integer_signed.calls false _ _ t269 t295 t296 _ ?side1 ?side2 A58.out).mono ?_); (case side1 => exact uC (zVr HO_8.out).2.2); (case side2 => exact (zVr HO_8.out).2.1); rintro e w69 ⟨v297, rfl, ho0, hb⟩; refine ⟨_, rfl, ?_⟩; replace HO_7 := zMk (zVe (uV HO_7.out) (zRz ho0) hb); replace HO_8 := zMk (zVe (uV HO_8.out) (zRz ho0) hb); have HO298 := zMk (zRl (zRw ho0 (zRt (uR HO294.out))) (zBs (uT HB.out))); replace HO294 := zMk (zRe (uR HO294.out) (zRz ho0) hb); replace BK262 := zMk (zKb BK262.out hb); replace BK263 := zMk (zKb BK263.out hb); replace BK264 := zMk (zKb BK264.out hb); replace BK265 := zMk (zKb BK265.out hb); replace HB := zMk (zBt (uT HB.out) hb); have hnb70 := NB264_265.out; have hnc70 := NB265_264.out; have hcz71_0 : w69.cell? ⟨gb264, 0, none⟩ = some (.bool false) := (zKc BK264.out 0).trans rfl; have hcz71_1 : w69.cell? ⟨gb264, 1, none⟩ = some (.slice none 0 0) := (zKc BK264.out 1).trans rfl; have hfz71_0 := zKf BK264.out 0; have hfz71_1 := zKf BK264.out 1; obtain ⟨Ao72, co72, eo72⟩ := zRs HO294.out; subst eo72; have hcz73_0 : w69.cell? ⟨gb265, 0, none⟩ = some (.bool false) := (zKc BK265.out 0).trans rfl; have hcz73_1 : w69.cell? ⟨gb265, 1, none⟩ = some (.slice none 0 0) := (zKc BK265.out 1).trans rfl; have hfz73_0 := zKf BK265.out 0; have hfz73_1 := zKf BK265.out 1; obtain ⟨Ao74, co74, eo74⟩ := zRs HO298.out; subst eo74))
    refine bodyPost_ret (results_list (rs:=[.cell 4 24, .cell 5 24, .tmp 6]) rfl (by simp) (.cell gb264 24 #[.bool t291, .slice Ao72 t292.length co72] (0, 0) _ rfl (by (with_reducible repeat (first | refine zKn ?_ _ | refine zKd ?_ | refine zKa ?_ _)); refine blk_far ?_ NB264_265.out _; (with_reducible repeat (first | refine zKn ?_ _ | refine zKd ?_ | refine zKa ?_ _)); refine blk_far ?_ NB264_265.out _; (with_reducible repeat (first | refine zKn ?_ _ | refine zKd ?_ | refine zKa ?_ _)); refine blk_put (cs:=#[.bool t291, .slice none 0 0]) ?_ 1 _ rfl; (with_reducible repeat (first | refine zKn ?_ _ | refine zKd ?_ | refine zKa ?_ _)); refine blk_put (cs:=#[.bool false, .slice none 0 0]) ?_ 0 _ rfl; (with_reducible repeat (first | refine zKn ?_ _ | refine zKd ?_ | refine zKa ?_ _)); exact BK264.out) Tryd.underlying24 rfl (by kernel_rfl) (.cell gb265 24 #[.bool t295, .slice Ao74 t296.length co74] (0, 0) _ rfl (by (with_reducible repeat (first | refine zKn ?_ _ | refine zKd ?_ | refine zKa ?_ _)); refine blk_put (cs:=#[.bool t295, .slice none 0 0]) ?_ 1 _ rfl; (with_reducible repeat (first | refine zKn ?_ _ | refine zKd ?_ | refine zKa ?_ _)); refine blk_put (cs:=#[.bool false, .slice none 0 0]) ?_ 0 _ rfl; (with_reducible repeat (first | refine zKn ?_ _ | refine zKd ?_ | refine zKa ?_ _)); refine blk_far ?_ NB265_264.out _; (with_reducible repeat (first | refine zKn ?_ _ | refine zKd ?_ | refine zKa ?_ _)); refine blk_far ?_ NB265_264.out _; (with_reducible repeat (first | refine zKn ?_ _ | refine zKd ?_ | refine zKa ?_ _)); exact BK265.out) Tryd.underlying24 rfl (by kernel_rfl) (.tmp .nil)))) rfl ?_
    exact ⟨_, _, by first | rfl | (simp [errW_none, errW_some] <;> rfl) | (simp [*, errW_none, errW_some] <;> rfl), by (with_reducible repeat (first | apply zRa | apply zRn | apply zRd)); exact zRm (Kd.R_far (p:=⟨gb265, 1, none⟩) (Kd.R_far (p:=⟨gb265, 0, none⟩) (Kd.R_far (p:=⟨gb264, 1, none⟩) (Kd.R_far (p:=⟨gb264, 0, none⟩) (Kd.R_types (Kd.R_types HO294.out BK264.out (by decide)) BK265.out (by decide)) (fun _ hk => hk.1.2) (.bool t291)) (fun _ hk => hk.1.2) (.slice Ao72 t292.length co72)) (fun _ hk => hk.2) (.bool t295)) (fun _ hk => hk.2) (.slice Ao74 t296.length co74)) (fun _ hk => hk.1.1.2), by (with_reducible repeat (first | apply zRa | apply zRn | apply zRd)); exact zRm (Kd.R_far (p:=⟨gb265, 1, none⟩) (Kd.R_far (p:=⟨gb265, 0, none⟩) (Kd.R_far (p:=⟨gb264, 1, none⟩) (Kd.R_far (p:=⟨gb264, 0, none⟩) (Kd.R_types (Kd.R_types HO298.out BK264.out (by decide)) BK265.out (by decide)) (fun _ hk => hk.1.2) (.bool t291)) (fun _ hk => hk.1.2) (.slice Ao72 t292.length co72)) (fun _ hk => hk.2) (.bool t295)) (fun _ hk => hk.2) (.slice Ao74 t296.length co74)) (fun _ hk => hk.1.1.2), by exact uT HB.out⟩
 ·rw [if_neg c4] at H
  have c4b0 : (t272 == 0) = false := beq_eq_false_iff_ne.mpr c4
  have c4b1 : (t272 != 0) = true := bne_iff_ne.mpr c4
  simp only [Option.some.injEq, Prod.mk.injEq] at H
  obtain ⟨rfl, rfl, rfl, rfl, rfl⟩ := H
  go_enter Tryd.func12, Tryd.ntmps12
  go_wp2_with (first | ((with_reducible refine gate_dst (N:=2) rfl ?_); (try (refine gate_guard (by rfl) ?_; dsimp only)); refine box_event ?hg (N:=2) ?hd (cs:=#[.bool a0_0, .slice A0_1 l0_1.length c0_1]) (t:=24) ?hr ?_; (case hd => rfl); (case hg => rfl); (case hr => first | (go_simp; done)|(go_simp; rfl)|(go_simp; rw [show ∀ x : Int, IntKind.u32.wrap (IntKind.u8.wrap x) = x % 256 from fun x => (by show (x % 256) % 4294967296 = x % 256; omega)])); intro gb262 hg w75 hbox hb; have BK262 := zMk (hbox); have GW262 := zMk ((by rw [hg]; exact (zBs (uT HB.out)) : w.heap.size ≤ gb262)); have GE262 := zMk ((by rw [hg]; exact (zBs (uT HB.out)) : w.heap.size ≤ gb262)); have IGE262 := ownGe GE262.out; replace HB := zMk (zBt (uT HB.out) hb); clear hb hbox hg)|((with_reducible refine gate_dst (N:=3) rfl ?_); (try (refine gate_guard (by rfl) ?_; dsimp only)); refine box_event ?hg (N:=3) ?hd (cs:=#[.bool a1_0, .slice A1_1 l1_1.length c1_1]) (t:=24) ?hr ?_; (case hd => rfl); (case hg => rfl); (case hr => first | (go_simp; done)|(go_simp; rfl)|(go_simp; rw [show ∀ x : Int, IntKind.u32.wrap (IntKind.u8.wrap x) = x % 256 from fun x => (by show (x % 256) % 4294967296 = x % 256; omega)])); intro gb263 hg w76 hbox hb; have BK263 := zMk (hbox); have GW263 := zMk ((by rw [hg]; exact (zBs (uT HB.out)) : w.heap.size ≤ gb263)); have GE263 := zMk ((by rw [hg]; exact (zBs (uT HB.out)) : w.heap.size ≤ gb263)); have IGE263 := ownGe GE263.out; replace HB := zMk (zBt (uT HB.out) hb); have NB262_263 := zMk ((by rw [hg]; exact Nat.ne_of_lt (blk_lt BK262.out) : gb262 ≠ gb263)); have NB263_262 := zMk ((by rw [hg]; exact Nat.ne_of_gt (blk_lt BK262.out) : gb263 ≠ gb262)); replace BK262 := zMk (zKb BK262.out hb); clear hb hbox hg)|((with_reducible refine gate_dst (N:=4) rfl ?_); (try (refine gate_guard (by rfl) ?_; dsimp only)); refine box_event ?hg (N:=4) ?hd (cs:=#[.bool false, .slice none 0 0]) (t:=24) ?hr ?_; (case hd => rfl); (case hg => rfl); (case hr => first | (go_simp; done)|(go_simp; rfl)|(go_simp; rw [show ∀ x : Int, IntKind.u32.wrap (IntKind.u8.wrap x) = x % 256 from fun x => (by show (x % 256) % 4294967296 = x % 256; omega)])); intro gb264 hg w77 hbox hb; have BK264 := zMk (hbox); have GW264 := zMk ((by rw [hg]; exact (zBs (uT HB.out)) : w.heap.size ≤ gb264)); have GE264 := zMk ((by rw [hg]; exact (zBs (uT HB.out)) : w.heap.size ≤ gb264)); have IGE264 := ownGe GE264.out; replace HB := zMk (zBt (uT HB.out) hb); have NB262_264 := zMk ((by rw [hg]; exact Nat.ne_of_lt (blk_lt BK262.out) : gb262 ≠ gb264)); have NB264_262 := zMk ((by rw [hg]; exact Nat.ne_of_gt (blk_lt BK262.out) : gb264 ≠ gb262)); replace BK262 := zMk (zKb BK262.out hb); have NB263_264 := zMk ((by rw [hg]; exact Nat.ne_of_lt (blk_lt BK263.out) : gb263 ≠ gb264)); have NB264_263 := zMk ((by rw [hg]; exact Nat.ne_of_gt (blk_lt BK263.out) : gb264 ≠ gb263)); replace BK263 := zMk (zKb BK263.out hb); clear hb hbox hg)|((with_reducible refine gate_dst (N:=5) rfl ?_); (try (refine gate_guard (by rfl) ?_; dsimp only)); refine box_event ?hg (N:=5) ?hd (cs:=#[.bool false, .slice none 0 0]) (t:=24) ?hr ?_; (case hd => rfl); (case hg => rfl); (case hr => first | (go_simp; done)|(go_simp; rfl)|(go_simp; rw [show ∀ x : Int, IntKind.u32.wrap (IntKind.u8.wrap x) = x % 256 from fun x => (by show (x % 256) % 4294967296 = x % 256; omega)])); intro gb265 hg w78 hbox hb; have BK265 := zMk (hbox); have GW265 := zMk ((by rw [hg]; exact (zBs (uT HB.out)) : w.heap.size ≤ gb265)); have GE265 := zMk ((by rw [hg]; exact (zBs (uT HB.out)) : w.heap.size ≤ gb265)); have IGE265 := ownGe GE265.out; replace HB := zMk (zBt (uT HB.out) hb); have NB262_265 := zMk ((by rw [hg]; exact Nat.ne_of_lt (blk_lt BK262.out) : gb262 ≠ gb265)); have NB265_262 := zMk ((by rw [hg]; exact Nat.ne_of_gt (blk_lt BK262.out) : gb265 ≠ gb262)); replace BK262 := zMk (zKb BK262.out hb); have NB263_265 := zMk ((by rw [hg]; exact Nat.ne_of_lt (blk_lt BK263.out) : gb263 ≠ gb265)); have NB265_263 := zMk ((by rw [hg]; exact Nat.ne_of_gt (blk_lt BK263.out) : gb265 ≠ gb263)); replace BK263 := zMk (zKb BK263.out hb); have NB264_265 := zMk ((by rw [hg]; exact Nat.ne_of_lt (blk_lt BK264.out) : gb264 ≠ gb265)); have NB265_264 := zMk ((by rw [hg]; exact Nat.ne_of_gt (blk_lt BK264.out) : gb265 ≠ gb264)); replace BK264 := zMk (zKb BK264.out hb); clear hb hbox hg; have hnb79 := NB262_263.out; have hnc79 := NB263_262.out; have hnb80 := NB262_264.out; have hnc80 := NB264_262.out; have hnb81 := NB262_265.out; have hnc81 := NB265_262.out; have hcz82_0 : w78.cell? ⟨gb262, 0, none⟩ = some (.bool a0_0) := (zKc BK262.out 0).trans rfl; have hcz82_1 : w78.cell? ⟨gb262, 1, none⟩ = some (.slice A0_1 l0_1.length c0_1) := (zKc BK262.out 1).trans rfl; have hfz82_0 := zKf BK262.out 0; have hfz82_1 := zKf BK262.out 1; have hnb83 := NB263_264.out; have hnc83 := NB264_263.out; have hnb84 := NB263_265.out; have hnc84 := NB265_263.out; have hcz85_0 : w78.cell? ⟨gb263, 0, none⟩ = some (.bool a1_0) := (zKc BK263.out 0).trans rfl; have hcz85_1 : w78.cell? ⟨gb263, 1, none⟩ = some (.slice A1_1 l1_1.length c1_1) := (zKc BK263.out 1).trans rfl; have hfz85_0 := zKf BK263.out 0; have hfz85_1 := zKf BK263.out 1)|((with_reducible refine gate_callee (f:=32) rfl ?_); refine goesL_ (some 14) rfl rfl Tryd.func32 (by kernel_rfl) rfl #[.slice A0_1 l0_1.length c0_1, .slice A1_1 l1_1.length c1_1] rfl (by (try simp only [zMa, zMc, zMn]); first |  done|  rfl|  (simp only [zLd, zLt]; rfl)) ?_; (with_reducible refine (n_DivMod.calls k (fun k_ => k_ < w.heap.size) _ _ l0_1 (fun k_ => k_ < w.heap.size) _ _ l1_1 t266 t269 t272 _ ?side1 ?side2 A3.out).mono ?_); (case side1 => exact Kd.V_mk HC0_1.out (Kd.F_below (Kd.C_F (Kd.heap_int .u32) HR0_1.out) (uT HB.out))); (case side2 => exact Kd.V_mk HC1_1.out (Kd.F_below (Kd.C_F (Kd.heap_int .u32) HR1_1.out) (uT HB.out))); rintro e w86 ⟨v267, v270, rfl, ho0, ho1, hb⟩; refine ⟨_, rfl, ?_⟩; have HO268 := zMk (zVl (zVm (ok' := fun k_ => k_ ≠ gb262 ∧ k_ ≠ gb263 ∧ k_ ≠ gb264 ∧ k_ ≠ gb265) ho0 (fun k_ hk_ => ⟨Or.elim hk_ (fun hs_ => Or.elim hs_ (fun hs_ => fun e_ => Nat.not_le.2 hs_ (by rw [e_]; exact GW262.out)) (fun hs_ => fun e_ => Nat.not_le.2 hs_ (by rw [e_]; exact GW262.out))) (fun hn_ => (Kd.freshB (g:=gb262) (o:=.cells #[.bool a0_0, .slice A0_1 l0_1.length c0_1] 24 (0, 0)) BK262.out k_ hn_)), Or.elim hk_ (fun hs_ => Or.elim hs_ (fun hs_ => fun e_ => Nat.not_le.2 hs_ (by rw [e_]; exact GW263.out)) (fun hs_ => fun e_ => Nat.not_le.2 hs_ (by rw [e_]; exact GW263.out))) (fun hn_ => (Kd.freshB (g:=gb263) (o:=.cells #[.bool a1_0, .slice A1_1 l1_1.length c1_1] 24 (0, 0)) BK263.out k_ hn_)), Or.elim hk_ (fun hs_ => Or.elim hs_ (fun hs_ => fun e_ => Nat.not_le.2 hs_ (by rw [e_]; exact GW264.out)) (fun hs_ => fun e_ => Nat.not_le.2 hs_ (by rw [e_]; exact GW264.out))) (fun hn_ => (Kd.freshB (g:=gb264) (o:=.cells #[.bool false, .slice none 0 0] 24 (0, 0)) BK264.out k_ hn_)), Or.elim hk_ (fun hs_ => Or.elim hs_ (fun hs_ => fun e_ => Nat.not_le.2 hs_ (by rw [e_]; exact GW265.out)) (fun hs_ => fun e_ => Nat.not_le.2 hs_ (by rw [e_]; exact GW265.out))) (fun hn_ => (Kd.freshB (g:=gb265) (o:=.cells #[.bool false, .slice none 0 0] 24 (0, 0)) BK265.out k_ hn_))⟩)) (zBs (uT HB.out))); have HO271 := zMk (zVl (zVm (ok' := fun k_ => k_ ≠ gb262 ∧ k_ ≠ gb263 ∧ k_ ≠ gb264 ∧ k_ ≠ gb265) ho1 (fun k_ hk_ => ⟨Or.elim hk_ (fun hs_ => Or.elim hs_ (fun hs_ => fun e_ => Nat.not_le.2 hs_ (by rw [e_]; exact GW262.out)) (fun hs_ => fun e_ => Nat.not_le.2 hs_ (by rw [e_]; exact GW262.out))) (fun hn_ => (Kd.freshB (g:=gb262) (o:=.cells #[.bool a0_0, .slice A0_1 l0_1.length c0_1] 24 (0, 0)) BK262.out k_ hn_)), Or.elim hk_ (fun hs_ => Or.elim hs_ (fun hs_ => fun e_ => Nat.not_le.2 hs_ (by rw [e_]; exact GW263.out)) (fun hs_ => fun e_ => Nat.not_le.2 hs_ (by rw [e_]; exact GW263.out))) (fun hn_ => (Kd.freshB (g:=gb263) (o:=.cells #[.bool a1_0, .slice A1_1 l1_1.length c1_1] 24 (0, 0)) BK263.out k_ hn_)), Or.elim hk_ (fun hs_ => Or.elim hs_ (fun hs_ => fun e_ => Nat.not_le.2 hs_ (by rw [e_]; exact GW264.out)) (fun hs_ => fun e_ => Nat.not_le.2 hs_ (by rw [e_]; exact GW264.out))) (fun hn_ => (Kd.freshB (g:=gb264) (o:=.cells #[.bool false, .slice none 0 0] 24 (0, 0)) BK264.out k_ hn_)), Or.elim hk_ (fun hs_ => Or.elim hs_ (fun hs_ => fun e_ => Nat.not_le.2 hs_ (by rw [e_]; exact GW265.out)) (fun hs_ => fun e_ => Nat.not_le.2 hs_ (by rw [e_]; exact GW265.out))) (fun hn_ => (Kd.freshB (g:=gb265) (o:=.cells #[.bool false, .slice none 0 0] 24 (0, 0)) BK265.out k_ hn_))⟩)) (zBs (uT HB.out))); replace BK262 := zMk (zKb BK262.out hb); replace BK263 := zMk (zKb BK263.out hb); replace BK264 := zMk (zKb BK264.out hb); replace BK265 := zMk (zKb BK265.out hb); replace HB := zMk (zBt (uT HB.out) hb); have hnb87 := NB264_265.out; have hnc87 := NB265_264.out; have hcz88_0 : w86.cell? ⟨gb264, 0, none⟩ = some (.bool false) := (zKc BK264.out 0).trans rfl; have hcz88_1 : w86.cell? ⟨gb264, 1, none⟩ = some (.slice none 0 0) := (zKc BK264.out 1).trans rfl; have hfz88_0 := zKf BK264.out 0; have hfz88_1 := zKf BK264.out 1; have hcz89_0 : w86.cell? ⟨gb265, 0, none⟩ = some (.bool false) := (zKc BK265.out 0).trans rfl; have hcz89_1 : w86.cell? ⟨gb265, 1, none⟩ = some (.slice none 0 0) := (zKc BK265.out 1).trans rfl; have hfz89_0 := zKf BK265.out 0; have hfz89_1 := zKf BK265.out 1))
  refine bodyPost_ret (results_list (rs:=[.cell 4 24, .cell 5 24, .tmp 6]) rfl (by simp) (.cell gb264 24 #[.bool false, .slice none 0 0] (0, 0) _ rfl (by (with_reducible repeat (first | refine zKn ?_ _ | refine zKd ?_ | refine zKa ?_ _)); refine blk_far ?_ NB264_265.out _; (with_reducible repeat (first | refine zKn ?_ _ | refine zKd ?_ | refine zKa ?_ _)); refine blk_far ?_ NB264_265.out _; (with_reducible repeat (first | refine zKn ?_ _ | refine zKd ?_ | refine zKa ?_ _)); refine blk_put (cs:=#[.bool false, .slice none 0 0]) ?_ 1 _ rfl; (with_reducible repeat (first | refine zKn ?_ _ | refine zKd ?_ | refine zKa ?_ _)); refine blk_put (cs:=#[.bool false, .slice none 0 0]) ?_ 0 _ rfl; (with_reducible repeat (first | refine zKn ?_ _ | refine zKd ?_ | refine zKa ?_ _)); exact BK264.out) Tryd.underlying24 rfl (by kernel_rfl) (.cell gb265 24 #[.bool false, .slice none 0 0] (0, 0) _ rfl (by (with_reducible repeat (first | refine zKn ?_ _ | refine zKd ?_ | refine zKa ?_ _)); refine blk_put (cs:=#[.bool false, .slice none 0 0]) ?_ 1 _ rfl; (with_reducible repeat (first | refine zKn ?_ _ | refine zKd ?_ | refine zKa ?_ _)); refine blk_put (cs:=#[.bool false, .slice none 0 0]) ?_ 0 _ rfl; (with_reducible repeat (first | refine zKn ?_ _ | refine zKd ?_ | refine zKa ?_ _)); refine blk_far ?_ NB265_264.out _; (with_reducible repeat (first | refine zKn ?_ _ | refine zKd ?_ | refine zKa ?_ _)); refine blk_far ?_ NB265_264.out _; (with_reducible repeat (first | refine zKn ?_ _ | refine zKd ?_ | refine zKa ?_ _)); exact BK265.out) Tryd.underlying24 rfl (by kernel_rfl) (.tmp .nil)))) rfl ?_
  exact ⟨_, _, by first | rfl | (simp [errW_none, errW_some] <;> rfl) | (simp [*, errW_none, errW_some] <;> rfl), by first | exact Kd.R_nil _ _ _ _ _ | exact Kd.N_nil _ _ _ _ _ | exact Kd.V_nil _ _ _ _ _ | exact Kd.Q_nil _ _ _ _ _ | exact Kd.S_nil _ _ _ _ _, by first | exact Kd.R_nil _ _ _ _ _ | exact Kd.N_nil _ _ _ _ _ | exact Kd.V_nil _ _ _ _ _ | exact Kd.Q_nil _ _ _ _ _ | exact Kd.S_nil _ _ _ _ _, by exact uT HB.out⟩


def integer_Exact.f (k : Nat) (a0_0 : Bool) (l0_1 : List Int) (a1_0 : Bool) (l1_1 : List Int) : Option (Bool × List Int × Int) := (integer_DivMod.f k a0_0 l0_1 a1_0 l1_1).bind fun bt302 => (if bt302.2.2.2.2 = 0 then (if (bt302.2.2.2.1.length : Int) > 0 then (some (false, ([] : List Int), 16)) else (some (bt302.1, bt302.2.1, 0))) else (some (false, ([] : List Int), bt302.2.2.2.2)))
theorem integer_Exact.calls (k : Nat) (a0_0 : Bool) (A0_1 : Option Addr) (c0_1 : Nat) (l0_1 : List Int) (a1_0 : Bool) (A1_1 : Option Addr) (c1_1 : Nat) (l1_1 : List Int) (r1 : Bool) (r2 : List Int) (r3 : Int) (w : World) (hr0_1 : Kd.C (Kd.int .u32) w A0_1 l0_1.length l0_1) (hc0_1 : l0_1.length ≤ c0_1) (hr1_1 : Kd.C (Kd.int .u32) w A1_1 l1_1.length l1_1) (hc1_1 : l1_1.length ≤ c1_1) (h : integer_Exact.f k a0_0 l0_1 a1_0 l1_1 = some (r1, r2, r3)) :
  Calls Tryd.prog 14 #[.agg #[.bool a0_0, .slice A0_1 l0_1.length c0_1], .agg #[.bool a1_0, .slice A1_1 l1_1.length c1_1]] w fun e w' => ∃ v1_ : Value, e = .returned (.tuple #[.agg #[.bool r1, v1_], .int .i64 r3]) ∧ Kd.R (Kd.int .u32) 58 w' w.heap.size (fun _ => True) v1_ r2 ∧ Below w.heap.size w w' := by
 have hu24 := Tryd.underlying24
 have HR0_1 := zMk hr0_1
 have HC0_1 := zMk hc0_1
 clear hr0_1 hc0_1
 have HR1_1 := zMk hr1_1
 have HC1_1 := zMk hc1_1
 clear hr1_1 hc1_1
 have HB := zMk (Below.refl w.heap.size w)
 have H : ((integer_DivMod.f k a0_0 l0_1 a1_0 l1_1).bind fun bt302 => (if bt302.2.2.2.2 = 0 then (if (bt302.2.2.2.1.length : Int) > 0 then (some (false, ([] : List Int), 16)) else (some (bt302.1, bt302.2.1, 0))) else (some (false, ([] : List Int), bt302.2.2.2.2)))) = some (r1, r2, r3) := h
 clear h
 replace H := bnd H
 obtain ⟨⟨t302, t303, t306, t307, t310⟩, A30, H⟩ := H
 replace H : (if t310 = 0 then (if (t307.length : Int) > 0 then (some (false, ([] : List Int), 16)) else (some (t302, t303, 0))) else (some (false, ([] : List Int), t310))) = some (r1, r2, r3) := H
 have A3 := zMk A30
 clear A30
 by_cases c4 : t310 = 0
 ·rw [if_pos c4] at H
  have c4b0 : (t310 == 0) = true := beq_iff_eq.mpr c4
  have c4b1 : (t310 != 0) = false := bne_eq_false_iff_eq.mpr c4
  clear c4
  by_cases c5 : (t307.length : Int) > 0
  ·rw [if_pos c5] at H
   have c5b0 : decide (0 < (t307.length : Int)) = true := decide_eq_true c5
   have c5b1 : decide (0 < t307.length) = true := decide_eq_true (by omega)
   clear c5
   simp only [Option.some.injEq, Prod.mk.injEq] at H
   obtain ⟨rfl, rfl, rfl⟩ := H
   go_enter Tryd.func14, Tryd.ntmps14
   go_wp2_with (first | ((with_reducible refine gate_dst (N:=2) rfl ?_); refine box_event ?hg (N:=2) ?hd (cs:=#[.bool a0_0, .slice A0_1 l0_1.length c0_1]) (t:=24) ?hr ?_; (case hd => rfl); (case hg => rfl); (case hr => first | (go_simp; done)|(go_simp; rfl)|(go_simp; rw [show ∀ x : Int, IntKind.u32.wrap (IntKind.u8.wrap x) = x % 256 from fun x => (by show (x % 256) % 4294967296 = x % 256; omega)])); intro gb299 hg w6 hbox hb; have BK299 := zMk (hbox); have GW299 := zMk ((by rw [hg]; exact (zBs (uT HB.out)) : w.heap.size ≤ gb299)); have GE299 := zMk ((by rw [hg]; exact (zBs (uT HB.out)) : w.heap.size ≤ gb299)); have IGE299 := ownGe GE299.out; replace HB := zMk (zBt (uT HB.out) hb); clear hb hbox hg)|((with_reducible refine gate_dst (N:=3) rfl ?_); refine box_event ?hg (N:=3) ?hd (cs:=#[.bool a1_0, .slice A1_1 l1_1.length c1_1]) (t:=24) ?hr ?_; (case hd => rfl); (case hg => rfl); (case hr => first | (go_simp; done)|(go_simp; rfl)|(go_simp; rw [show ∀ x : Int, IntKind.u32.wrap (IntKind.u8.wrap x) = x % 256 from fun x => (by show (x % 256) % 4294967296 = x % 256; omega)])); intro gb300 hg w7 hbox hb; have BK300 := zMk (hbox); have GW300 := zMk ((by rw [hg]; exact (zBs (uT HB.out)) : w.heap.size ≤ gb300)); have GE300 := zMk ((by rw [hg]; exact (zBs (uT HB.out)) : w.heap.size ≤ gb300)); have IGE300 := ownGe GE300.out; replace HB := zMk (zBt (uT HB.out) hb); have NB299_300 := zMk ((by rw [hg]; exact Nat.ne_of_lt (blk_lt BK299.out) : gb299 ≠ gb300)); have NB300_299 := zMk ((by rw [hg]; exact Nat.ne_of_gt (blk_lt BK299.out) : gb300 ≠ gb299)); replace BK299 := zMk (zKb BK299.out hb); clear hb hbox hg)|((with_reducible refine gate_dst (N:=4) rfl ?_); refine box_event ?hg (N:=4) ?hd (cs:=#[.bool false, .slice none 0 0]) (t:=24) ?hr ?_; (case hd => rfl); (case hg => rfl); (case hr => first | (go_simp; done)|(go_simp; rfl)|(go_simp; rw [show ∀ x : Int, IntKind.u32.wrap (IntKind.u8.wrap x) = x % 256 from fun x => (by show (x % 256) % 4294967296 = x % 256; omega)])); intro gb301 hg w8 hbox hb; have BK301 := zMk (hbox); have GW301 := zMk ((by rw [hg]; exact (zBs (uT HB.out)) : w.heap.size ≤ gb301)); have GE301 := zMk ((by rw [hg]; exact (zBs (uT HB.out)) : w.heap.size ≤ gb301)); have IGE301 := ownGe GE301.out; replace HB := zMk (zBt (uT HB.out) hb); have NB299_301 := zMk ((by rw [hg]; exact Nat.ne_of_lt (blk_lt BK299.out) : gb299 ≠ gb301)); have NB301_299 := zMk ((by rw [hg]; exact Nat.ne_of_gt (blk_lt BK299.out) : gb301 ≠ gb299)); replace BK299 := zMk (zKb BK299.out hb); have NB300_301 := zMk ((by rw [hg]; exact Nat.ne_of_lt (blk_lt BK300.out) : gb300 ≠ gb301)); have NB301_300 := zMk ((by rw [hg]; exact Nat.ne_of_gt (blk_lt BK300.out) : gb301 ≠ gb300)); replace BK300 := zMk (zKb BK300.out hb); clear hb hbox hg; have hnb9 := NB299_300.out; have hnc9 := NB300_299.out; have hnb10 := NB299_301.out; have hnc10 := NB301_299.out; have hcz11_0 : w8.cell? ⟨gb299, 0, none⟩ = some (.bool a0_0) := (zKc BK299.out 0).trans rfl; have hcz11_1 : w8.cell? ⟨gb299, 1, none⟩ = some (.slice A0_1 l0_1.length c0_1) := (zKc BK299.out 1).trans rfl; have hfz11_0 := zKf BK299.out 0; have hfz11_1 := zKf BK299.out 1; have hnb12 := NB300_301.out; have hnc12 := NB301_300.out; have hcz13_0 : w8.cell? ⟨gb300, 0, none⟩ = some (.bool a1_0) := (zKc BK300.out 0).trans rfl; have hcz13_1 : w8.cell? ⟨gb300, 1, none⟩ = some (.slice A1_1 l1_1.length c1_1) := (zKc BK300.out 1).trans rfl; have hfz13_0 := zKf BK300.out 0; have hfz13_1 := zKf BK300.out 1)|((with_reducible refine gate_callee (f:=12) rfl ?_); refine goesL_ (some 12) rfl rfl Tryd.func12 (by kernel_rfl) rfl #[.agg #[.bool a0_0, .slice A0_1 l0_1.length c0_1], .agg #[.bool a1_0, .slice A1_1 l1_1.length c1_1]] rfl (by (try simp only [zMa, zMc, zMn]); first |  done|  rfl|  (simp only [zLd, zLt]; rfl)) ?_; (with_reducible refine (integer_DivMod.calls k a0_0 _ _ l0_1 a1_0 _ _ l1_1 t302 t303 t306 t307 t310 _ ?side1 ?side2 ?side3 ?side4 A3.out).mono ?_); (case side1 => repeat (first |  exact (Kd.C_below HR0_1.out HB.out)|(with_reducible refine zCa ?_ _)|(with_reducible refine zCn ?_ _)|(with_reducible refine zCd ?_))); (case side2 => exact HC0_1.out); (case side3 => repeat (first |  exact (Kd.C_below HR1_1.out HB.out)|(with_reducible refine zCa ?_ _)|(with_reducible refine zCn ?_ _)|(with_reducible refine zCd ?_))); (case side4 => exact HC1_1.out); rintro e w14 ⟨v304, v308, rfl, ho0, ho1, hb⟩; refine ⟨_, rfl, ?_⟩; have HO305 := zMk (zRl ho0 (zBs (uT HB.out))); have HO309 := zMk (zRl ho1 (zBs (uT HB.out))); replace BK299 := zMk (zKb BK299.out hb); replace BK300 := zMk (zKb BK300.out hb); replace BK301 := zMk (zKb BK301.out hb); replace HB := zMk (zBt (uT HB.out) hb))|((with_reducible refine gate_dst (N:=6) rfl ?_); refine box_event ?hg (N:=6) ?hd (cs:=#[.bool false, .slice none 0 0]) (t:=24) ?hr ?_; (case hd => rfl); (case hg => rfl); (case hr => first | (go_simp; done)|(go_simp; rfl)|(go_simp; rw [show ∀ x : Int, IntKind.u32.wrap (IntKind.u8.wrap x) = x % 256 from fun x => (by show (x % 256) % 4294967296 = x % 256; omega)])); intro gb311 hg w15 hbox hb; replace HO305 := zMk (zRb (uR HO305.out) hb); replace HO309 := zMk (zRb (uR HO309.out) hb); have BK311 := zMk (hbox); have GW311 := zMk ((by rw [hg]; exact (zBs (uT HB.out)) : w.heap.size ≤ gb311)); have GE311 := zMk ((by rw [hg]; exact (zBs (uT HB.out)) : w.heap.size ≤ gb311)); have IGE311 := ownGe GE311.out; replace HB := zMk (zBt (uT HB.out) hb); have NB299_311 := zMk ((by rw [hg]; exact Nat.ne_of_lt (blk_lt BK299.out) : gb299 ≠ gb311)); have NB311_299 := zMk ((by rw [hg]; exact Nat.ne_of_gt (blk_lt BK299.out) : gb311 ≠ gb299)); replace BK299 := zMk (zKb BK299.out hb); have NB300_311 := zMk ((by rw [hg]; exact Nat.ne_of_lt (blk_lt BK300.out) : gb300 ≠ gb311)); have NB311_300 := zMk ((by rw [hg]; exact Nat.ne_of_gt (blk_lt BK300.out) : gb311 ≠ gb300)); replace BK300 := zMk (zKb BK300.out hb); have NB301_311 := zMk ((by rw [hg]; exact Nat.ne_of_lt (blk_lt BK301.out) : gb301 ≠ gb311)); have NB311_301 := zMk ((by rw [hg]; exact Nat.ne_of_gt (blk_lt BK301.out) : gb311 ≠ gb301)); replace BK301 := zMk (zKb BK301.out hb); clear hb hbox hg)|((with_reducible refine gate_dst (N:=7) rfl ?_); refine box_event ?hg (N:=7) ?hd (cs:=#[.bool false, .slice none 0 0]) (t:=24) ?hr ?_; (case hd => rfl); (case hg => rfl); (case hr => first | (go_simp; done)|(go_simp; rfl)|(go_simp; rw [show ∀ x : Int, IntKind.u32.wrap (IntKind.u8.wrap x) = x % 256 from fun x => (by show (x % 256) % 4294967296 = x % 256; omega)])); intro gb312 hg w16 hbox hb; replace HO305 := zMk (zRb (uR HO305.out) hb); replace HO309 := zMk (zRb (uR HO309.out) hb); have BK312 := zMk (hbox); have GW312 := zMk ((by rw [hg]; exact (zBs (uT HB.out)) : w.heap.size ≤ gb312)); have GE312 := zMk ((by rw [hg]; exact (zBs (uT HB.out)) : w.heap.size ≤ gb312)); have IGE312 := ownGe GE312.out; replace HB := zMk (zBt (uT HB.out) hb); have NB299_312 := zMk ((by rw [hg]; exact Nat.ne_of_lt (blk_lt BK299.out) : gb299 ≠ gb312)); have NB312_299 := zMk ((by rw [hg]; exact Nat.ne_of_gt (blk_lt BK299.out) : gb312 ≠ gb299)); replace BK299 := zMk (zKb BK299.out hb); have NB300_312 := zMk ((by rw [hg]; exact Nat.ne_of_lt (blk_lt BK300.out) : gb300 ≠ gb312)); have NB312_300 := zMk ((by rw [hg]; exact Nat.ne_of_gt (blk_lt BK300.out) : gb312 ≠ gb300)); replace BK300 := zMk (zKb BK300.out hb); have NB301_312 := zMk ((by rw [hg]; exact Nat.ne_of_lt (blk_lt BK301.out) : gb301 ≠ gb312)); have NB312_301 := zMk ((by rw [hg]; exact Nat.ne_of_gt (blk_lt BK301.out) : gb312 ≠ gb301)); replace BK301 := zMk (zKb BK301.out hb); have NB311_312 := zMk ((by rw [hg]; exact Nat.ne_of_lt (blk_lt BK311.out) : gb311 ≠ gb312)); have NB312_311 := zMk ((by rw [hg]; exact Nat.ne_of_gt (blk_lt BK311.out) : gb312 ≠ gb311)); replace BK311 := zMk (zKb BK311.out hb); clear hb hbox hg; have hnb17 := NB311_299.out; have hnc17 := NB299_311.out; have hnb18 := NB311_300.out; have hnc18 := NB300_311.out; have hnb19 := NB311_301.out; have hnc19 := NB301_311.out; have hnb20 := NB311_312.out; have hnc20 := NB312_311.out; have hcz21_0 : w16.cell? ⟨gb311, 0, none⟩ = some (.bool false) := (zKc BK311.out 0).trans rfl; have hcz21_1 : w16.cell? ⟨gb311, 1, none⟩ = some (.slice none 0 0) := (zKc BK311.out 1).trans rfl; have hfz21_0 := zKf BK311.out 0; have hfz21_1 := zKf BK311.out 1; obtain ⟨Ao22, co22, eo22⟩ := zRs HO305.out; subst eo22; have hnb23 := NB312_299.out; have hnc23 := NB299_312.out; have hnb24 := NB312_300.out; have hnc24 := NB300_312.out; have hnb25 := NB312_301.out; have hnc25 := NB301_312.out; have hcz26_0 : w16.cell? ⟨gb312, 0, none⟩ = some (.bool false) := (zKc BK312.out 0).trans rfl; have hcz26_1 : w16.cell? ⟨gb312, 1, none⟩ = some (.slice none 0 0) := (zKc BK312.out 1).trans rfl; have hfz26_0 := zKf BK312.out 0; have hfz26_1 := zKf BK312.out 1; obtain ⟨Ao27, co27, eo27⟩ := zRs HO309.out; subst eo27; have hcz28_0 : w16.cell? ⟨gb301, 0, none⟩ = some (.bool false) := (zKc BK301.out 0).trans rfl; have hcz28_1 : w16.cell? ⟨gb301, 1, none⟩ = some (.slice none 0 0) := (zKc BK301.out 1).trans rfl; have hfz28_0 := zKf BK301.out 0; have hfz28_1 := zKf BK301.out 1))
   refine bodyPost_ret (results_ct rfl _ _ gb301 24 #[.bool false, .slice none 0 0] (0, 0) _ rfl (by (with_reducible repeat (first | refine zKn ?_ _ | refine zKd ?_ | refine zKa ?_ _)); refine blk_put (cs:=#[.bool false, .slice none 0 0]) ?_ 1 _ rfl; (with_reducible repeat (first | refine zKn ?_ _ | refine zKd ?_ | refine zKa ?_ _)); refine blk_put (cs:=#[.bool false, .slice none 0 0]) ?_ 0 _ rfl; (with_reducible repeat (first | refine zKn ?_ _ | refine zKd ?_ | refine zKa ?_ _)); refine blk_far ?_ NB301_312.out _; (with_reducible repeat (first | refine zKn ?_ _ | refine zKd ?_ | refine zKa ?_ _)); refine blk_far ?_ NB301_312.out _; (with_reducible repeat (first | refine zKn ?_ _ | refine zKd ?_ | refine zKa ?_ _)); refine blk_far ?_ NB301_311.out _; (with_reducible repeat (first | refine zKn ?_ _ | refine zKd ?_ | refine zKa ?_ _)); refine blk_far ?_ NB301_311.out _; (with_reducible repeat (first | refine zKn ?_ _ | refine zKd ?_ | refine zKa ?_ _)); exact BK301.out) Tryd.underlying24 rfl (by kernel_rfl)) rfl ?_
   exact ⟨_, by first | rfl | (simp [errW_none, errW_some] <;> rfl) | (simp [*, errW_none, errW_some] <;> rfl), by first | exact Kd.R_nil _ _ _ _ _ | exact Kd.N_nil _ _ _ _ _ | exact Kd.V_nil _ _ _ _ _ | exact Kd.Q_nil _ _ _ _ _ | exact Kd.S_nil _ _ _ _ _, by exact uT HB.out⟩
  ·rw [if_neg c5] at H
   have c5b0 : decide (0 < (t307.length : Int)) = false := decide_eq_false c5
   have c5b1 : decide (0 < t307.length) = false := decide_eq_false (by omega)
   clear c5
   simp only [Option.some.injEq, Prod.mk.injEq] at H
   obtain ⟨rfl, rfl, rfl⟩ := H
   go_enter Tryd.func14, Tryd.ntmps14
   go_wp2_with (first | ((with_reducible refine gate_dst (N:=2) rfl ?_); refine box_event ?hg (N:=2) ?hd (cs:=#[.bool a0_0, .slice A0_1 l0_1.length c0_1]) (t:=24) ?hr ?_; (case hd => rfl); (case hg => rfl); (case hr => first | (go_simp; done)|(go_simp; rfl)|(go_simp; rw [show ∀ x : Int, IntKind.u32.wrap (IntKind.u8.wrap x) = x % 256 from fun x => (by show (x % 256) % 4294967296 = x % 256; omega)])); intro gb299 hg w29 hbox hb; have BK299 := zMk (hbox); have GW299 := zMk ((by rw [hg]; exact (zBs (uT HB.out)) : w.heap.size ≤ gb299)); have GE299 := zMk ((by rw [hg]; exact (zBs (uT HB.out)) : w.heap.size ≤ gb299)); have IGE299 := ownGe GE299.out; replace HB := zMk (zBt (uT HB.out) hb); clear hb hbox hg)|((with_reducible refine gate_dst (N:=3) rfl ?_); refine box_event ?hg (N:=3) ?hd (cs:=#[.bool a1_0, .slice A1_1 l1_1.length c1_1]) (t:=24) ?hr ?_; (case hd => rfl); (case hg => rfl); (case hr => first | (go_simp; done)|(go_simp; rfl)|(go_simp; rw [show ∀ x : Int, IntKind.u32.wrap (IntKind.u8.wrap x) = x % 256 from fun x => (by show (x % 256) % 4294967296 = x % 256; omega)])); intro gb300 hg w30 hbox hb; have BK300 := zMk (hbox); have GW300 := zMk ((by rw [hg]; exact (zBs (uT HB.out)) : w.heap.size ≤ gb300)); have GE300 := zMk ((by rw [hg]; exact (zBs (uT HB.out)) : w.heap.size ≤ gb300)); have IGE300 := ownGe GE300.out; replace HB := zMk (zBt (uT HB.out) hb); have NB299_300 := zMk ((by rw [hg]; exact Nat.ne_of_lt (blk_lt BK299.out) : gb299 ≠ gb300)); have NB300_299 := zMk ((by rw [hg]; exact Nat.ne_of_gt (blk_lt BK299.out) : gb300 ≠ gb299)); replace BK299 := zMk (zKb BK299.out hb); clear hb hbox hg)|((with_reducible refine gate_dst (N:=4) rfl ?_); refine box_event ?hg (N:=4) ?hd (cs:=#[.bool false, .slice none 0 0]) (t:=24) ?hr ?_; (case hd => rfl); (case hg => rfl); (case hr => first | (go_simp; done)|(go_simp; rfl)|(go_simp; rw [show ∀ x : Int, IntKind.u32.wrap (IntKind.u8.wrap x) = x % 256 from fun x => (by show (x % 256) % 4294967296 = x % 256; omega)])); intro gb301 hg w31 hbox hb; have BK301 := zMk (hbox); have GW301 := zMk ((by rw [hg]; exact (zBs (uT HB.out)) : w.heap.size ≤ gb301)); have GE301 := zMk ((by rw [hg]; exact (zBs (uT HB.out)) : w.heap.size ≤ gb301)); have IGE301 := ownGe GE301.out; replace HB := zMk (zBt (uT HB.out) hb); have NB299_301 := zMk ((by rw [hg]; exact Nat.ne_of_lt (blk_lt BK299.out) : gb299 ≠ gb301)); have NB301_299 := zMk ((by rw [hg]; exact Nat.ne_of_gt (blk_lt BK299.out) : gb301 ≠ gb299)); replace BK299 := zMk (zKb BK299.out hb); have NB300_301 := zMk ((by rw [hg]; exact Nat.ne_of_lt (blk_lt BK300.out) : gb300 ≠ gb301)); have NB301_300 := zMk ((by rw [hg]; exact Nat.ne_of_gt (blk_lt BK300.out) : gb301 ≠ gb300)); replace BK300 := zMk (zKb BK300.out hb); clear hb hbox hg; have hnb32 := NB299_300.out; have hnc32 := NB300_299.out; have hnb33 := NB299_301.out; have hnc33 := NB301_299.out; have hcz34_0 : w31.cell? ⟨gb299, 0, none⟩ = some (.bool a0_0) := (zKc BK299.out 0).trans rfl; have hcz34_1 : w31.cell? ⟨gb299, 1, none⟩ = some (.slice A0_1 l0_1.length c0_1) := (zKc BK299.out 1).trans rfl; have hfz34_0 := zKf BK299.out 0; have hfz34_1 := zKf BK299.out 1; have hnb35 := NB300_301.out; have hnc35 := NB301_300.out; have hcz36_0 : w31.cell? ⟨gb300, 0, none⟩ = some (.bool a1_0) := (zKc BK300.out 0).trans rfl; have hcz36_1 : w31.cell? ⟨gb300, 1, none⟩ = some (.slice A1_1 l1_1.length c1_1) := (zKc BK300.out 1).trans rfl; have hfz36_0 := zKf BK300.out 0; have hfz36_1 := zKf BK300.out 1)|((with_reducible refine gate_callee (f:=12) rfl ?_); refine goesL_ (some 12) rfl rfl Tryd.func12 (by kernel_rfl) rfl #[.agg #[.bool a0_0, .slice A0_1 l0_1.length c0_1], .agg #[.bool a1_0, .slice A1_1 l1_1.length c1_1]] rfl (by (try simp only [zMa, zMc, zMn]); first |  done|  rfl|  (simp only [zLd, zLt]; rfl)) ?_; (with_reducible refine (integer_DivMod.calls k a0_0 _ _ l0_1 a1_0 _ _ l1_1 t302 t303 t306 t307 t310 _ ?side1 ?side2 ?side3 ?side4 A3.out).mono ?_); (case side1 => repeat (first |  exact (Kd.C_below HR0_1.out HB.out)|(with_reducible refine zCa ?_ _)|(with_reducible refine zCn ?_ _)|(with_reducible refine zCd ?_))); (case side2 => exact HC0_1.out); (case side3 => repeat (first |  exact (Kd.C_below HR1_1.out HB.out)|(with_reducible refine zCa ?_ _)|(with_reducible refine zCn ?_ _)|(with_reducible refine zCd ?_))); (case side4 => exact HC1_1.out); rintro e w37 ⟨v304, v308, rfl, ho0, ho1, hb⟩; refine ⟨_, rfl, ?_⟩; have HO305 := zMk (zRl ho0 (zBs (uT HB.out))); have HO309 := zMk (zRl ho1 (zBs (uT HB.out))); replace BK299 := zMk (zKb BK299.out hb); replace BK300 := zMk (zKb BK300.out hb); replace BK301 := zMk (zKb BK301.out hb); replace HB := zMk (zBt (uT HB.out) hb))|((with_reducible refine gate_dst (N:=6) rfl ?_); refine box_event ?hg (N:=6) ?hd (cs:=#[.bool false, .slice none 0 0]) (t:=24) ?hr ?_; (case hd => rfl); (case hg => rfl); (case hr => first | (go_simp; done)|(go_simp; rfl)|(go_simp; rw [show ∀ x : Int, IntKind.u32.wrap (IntKind.u8.wrap x) = x % 256 from fun x => (by show (x % 256) % 4294967296 = x % 256; omega)])); intro gb311 hg w38 hbox hb; replace HO305 := zMk (zRb (uR HO305.out) hb); replace HO309 := zMk (zRb (uR HO309.out) hb); have BK311 := zMk (hbox); have GW311 := zMk ((by rw [hg]; exact (zBs (uT HB.out)) : w.heap.size ≤ gb311)); have GE311 := zMk ((by rw [hg]; exact (zBs (uT HB.out)) : w.heap.size ≤ gb311)); have IGE311 := ownGe GE311.out; replace HB := zMk (zBt (uT HB.out) hb); have NB299_311 := zMk ((by rw [hg]; exact Nat.ne_of_lt (blk_lt BK299.out) : gb299 ≠ gb311)); have NB311_299 := zMk ((by rw [hg]; exact Nat.ne_of_gt (blk_lt BK299.out) : gb311 ≠ gb299)); replace BK299 := zMk (zKb BK299.out hb); have NB300_311 := zMk ((by rw [hg]; exact Nat.ne_of_lt (blk_lt BK300.out) : gb300 ≠ gb311)); have NB311_300 := zMk ((by rw [hg]; exact Nat.ne_of_gt (blk_lt BK300.out) : gb311 ≠ gb300)); replace BK300 := zMk (zKb BK300.out hb); have NB301_311 := zMk ((by rw [hg]; exact Nat.ne_of_lt (blk_lt BK301.out) : gb301 ≠ gb311)); have NB311_301 := zMk ((by rw [hg]; exact Nat.ne_of_gt (blk_lt BK301.out) : gb311 ≠ gb301)); replace BK301 := zMk (zKb BK301.out hb); clear hb hbox hg)|((with_reducible refine gate_dst (N:=7) rfl ?_); refine box_event ?hg (N:=7) ?hd (cs:=#[.bool false, .slice none 0 0]) (t:=24) ?hr ?_; (case hd => rfl); (case hg => rfl); (case hr => first | (go_simp; done)|(go_simp; rfl)|(go_simp; rw [show ∀ x : Int, IntKind.u32.wrap (IntKind.u8.wrap x) = x % 256 from fun x => (by show (x % 256) % 4294967296 = x % 256; omega)])); intro gb312 hg w39 hbox hb; replace HO305 := zMk (zRb (uR HO305.out) hb); replace HO309 := zMk (zRb (uR HO309.out) hb); have BK312 := zMk (hbox); have GW312 := zMk ((by rw [hg]; exact (zBs (uT HB.out)) : w.heap.size ≤ gb312)); have GE312 := zMk ((by rw [hg]; exact (zBs (uT HB.out)) : w.heap.size ≤ gb312)); have IGE312 := ownGe GE312.out; replace HB := zMk (zBt (uT HB.out) hb); have NB299_312 := zMk ((by rw [hg]; exact Nat.ne_of_lt (blk_lt BK299.out) : gb299 ≠ gb312)); have NB312_299 := zMk ((by rw [hg]; exact Nat.ne_of_gt (blk_lt BK299.out) : gb312 ≠ gb299)); replace BK299 := zMk (zKb BK299.out hb); have NB300_312 := zMk ((by rw [hg]; exact Nat.ne_of_lt (blk_lt BK300.out) : gb300 ≠ gb312)); have NB312_300 := zMk ((by rw [hg]; exact Nat.ne_of_gt (blk_lt BK300.out) : gb312 ≠ gb300)); replace BK300 := zMk (zKb BK300.out hb); have NB301_312 := zMk ((by rw [hg]; exact Nat.ne_of_lt (blk_lt BK301.out) : gb301 ≠ gb312)); have NB312_301 := zMk ((by rw [hg]; exact Nat.ne_of_gt (blk_lt BK301.out) : gb312 ≠ gb301)); replace BK301 := zMk (zKb BK301.out hb); have NB311_312 := zMk ((by rw [hg]; exact Nat.ne_of_lt (blk_lt BK311.out) : gb311 ≠ gb312)); have NB312_311 := zMk ((by rw [hg]; exact Nat.ne_of_gt (blk_lt BK311.out) : gb312 ≠ gb311)); replace BK311 := zMk (zKb BK311.out hb); clear hb hbox hg; have hnb40 := NB311_299.out; have hnc40 := NB299_311.out; have hnb41 := NB311_300.out; have hnc41 := NB300_311.out; have hnb42 := NB311_301.out; have hnc42 := NB301_311.out; have hnb43 := NB311_312.out; have hnc43 := NB312_311.out; have hcz44_0 : w39.cell? ⟨gb311, 0, none⟩ = some (.bool false) := (zKc BK311.out 0).trans rfl; have hcz44_1 : w39.cell? ⟨gb311, 1, none⟩ = some (.slice none 0 0) := (zKc BK311.out 1).trans rfl; have hfz44_0 := zKf BK311.out 0; have hfz44_1 := zKf BK311.out 1; obtain ⟨Ao45, co45, eo45⟩ := zRs HO305.out; subst eo45; have hnb46 := NB312_299.out; have hnc46 := NB299_312.out; have hnb47 := NB312_300.out; have hnc47 := NB300_312.out; have hnb48 := NB312_301.out; have hnc48 := NB301_312.out; have hcz49_0 : w39.cell? ⟨gb312, 0, none⟩ = some (.bool false) := (zKc BK312.out 0).trans rfl; have hcz49_1 : w39.cell? ⟨gb312, 1, none⟩ = some (.slice none 0 0) := (zKc BK312.out 1).trans rfl; have hfz49_0 := zKf BK312.out 0; have hfz49_1 := zKf BK312.out 1; obtain ⟨Ao50, co50, eo50⟩ := zRs HO309.out; subst eo50; have hcz51_0 : w39.cell? ⟨gb301, 0, none⟩ = some (.bool false) := (zKc BK301.out 0).trans rfl; have hcz51_1 : w39.cell? ⟨gb301, 1, none⟩ = some (.slice none 0 0) := (zKc BK301.out 1).trans rfl; have hfz51_0 := zKf BK301.out 0; have hfz51_1 := zKf BK301.out 1))
   refine bodyPost_ret (results_ct rfl _ _ gb301 24 #[.bool t302, .slice Ao45 t303.length co45] (0, 0) _ rfl (by (with_reducible repeat (first | refine zKn ?_ _ | refine zKd ?_ | refine zKa ?_ _)); refine blk_put (cs:=#[.bool t302, .slice none 0 0]) ?_ 1 _ rfl; (with_reducible repeat (first | refine zKn ?_ _ | refine zKd ?_ | refine zKa ?_ _)); refine blk_put (cs:=#[.bool false, .slice none 0 0]) ?_ 0 _ rfl; (with_reducible repeat (first | refine zKn ?_ _ | refine zKd ?_ | refine zKa ?_ _)); refine blk_far ?_ NB301_312.out _; (with_reducible repeat (first | refine zKn ?_ _ | refine zKd ?_ | refine zKa ?_ _)); refine blk_far ?_ NB301_312.out _; (with_reducible repeat (first | refine zKn ?_ _ | refine zKd ?_ | refine zKa ?_ _)); refine blk_far ?_ NB301_311.out _; (with_reducible repeat (first | refine zKn ?_ _ | refine zKd ?_ | refine zKa ?_ _)); refine blk_far ?_ NB301_311.out _; (with_reducible repeat (first | refine zKn ?_ _ | refine zKd ?_ | refine zKa ?_ _)); exact BK301.out) Tryd.underlying24 rfl (by kernel_rfl)) rfl ?_
   exact ⟨_, by first | rfl | (simp [errW_none, errW_some] <;> rfl) | (simp [*, errW_none, errW_some] <;> rfl), by (with_reducible repeat (first | apply zRa | apply zRn | apply zRd)); exact zRm (Kd.R_far (p:=⟨gb301, 1, none⟩) (Kd.R_far (p:=⟨gb301, 0, none⟩) (Kd.R_far (p:=⟨gb312, 1, none⟩) (Kd.R_far (p:=⟨gb312, 0, none⟩) (Kd.R_far (p:=⟨gb311, 1, none⟩) (Kd.R_far (p:=⟨gb311, 0, none⟩) (Kd.R_types (Kd.R_types (Kd.R_types HO305.out BK311.out (by decide)) BK312.out (by decide)) BK301.out (by decide)) (fun _ hk => hk.1.1.2) (.bool t302)) (fun _ hk => hk.1.1.2) (.slice Ao45 t303.length co45)) (fun _ hk => hk.1.2) (.bool t306)) (fun _ hk => hk.1.2) (.slice Ao50 t307.length co50)) (fun _ hk => hk.2) (.bool t302)) (fun _ hk => hk.2) (.slice Ao45 t303.length co45)) (fun _ hk => trivial), by exact uT HB.out⟩
 ·rw [if_neg c4] at H
  have c4b0 : (t310 == 0) = false := beq_eq_false_iff_ne.mpr c4
  have c4b1 : (t310 != 0) = true := bne_iff_ne.mpr c4
  simp only [Option.some.injEq, Prod.mk.injEq] at H
  obtain ⟨rfl, rfl, rfl⟩ := H
  go_enter Tryd.func14, Tryd.ntmps14
  go_wp2_with (first | ((with_reducible refine gate_dst (N:=2) rfl ?_); refine box_event ?hg (N:=2) ?hd (cs:=#[.bool a0_0, .slice A0_1 l0_1.length c0_1]) (t:=24) ?hr ?_; (case hd => rfl); (case hg => rfl); (case hr => first | (go_simp; done)|(go_simp; rfl)|(go_simp; rw [show ∀ x : Int, IntKind.u32.wrap (IntKind.u8.wrap x) = x % 256 from fun x => (by show (x % 256) % 4294967296 = x % 256; omega)])); intro gb299 hg w52 hbox hb; have BK299 := zMk (hbox); have GW299 := zMk ((by rw [hg]; exact (zBs (uT HB.out)) : w.heap.size ≤ gb299)); have GE299 := zMk ((by rw [hg]; exact (zBs (uT HB.out)) : w.heap.size ≤ gb299)); have IGE299 := ownGe GE299.out; replace HB := zMk (zBt (uT HB.out) hb); clear hb hbox hg)|((with_reducible refine gate_dst (N:=3) rfl ?_); refine box_event ?hg (N:=3) ?hd (cs:=#[.bool a1_0, .slice A1_1 l1_1.length c1_1]) (t:=24) ?hr ?_; (case hd => rfl); (case hg => rfl); (case hr => first | (go_simp; done)|(go_simp; rfl)|(go_simp; rw [show ∀ x : Int, IntKind.u32.wrap (IntKind.u8.wrap x) = x % 256 from fun x => (by show (x % 256) % 4294967296 = x % 256; omega)])); intro gb300 hg w53 hbox hb; have BK300 := zMk (hbox); have GW300 := zMk ((by rw [hg]; exact (zBs (uT HB.out)) : w.heap.size ≤ gb300)); have GE300 := zMk ((by rw [hg]; exact (zBs (uT HB.out)) : w.heap.size ≤ gb300)); have IGE300 := ownGe GE300.out; replace HB := zMk (zBt (uT HB.out) hb); have NB299_300 := zMk ((by rw [hg]; exact Nat.ne_of_lt (blk_lt BK299.out) : gb299 ≠ gb300)); have NB300_299 := zMk ((by rw [hg]; exact Nat.ne_of_gt (blk_lt BK299.out) : gb300 ≠ gb299)); replace BK299 := zMk (zKb BK299.out hb); clear hb hbox hg)|((with_reducible refine gate_dst (N:=4) rfl ?_); refine box_event ?hg (N:=4) ?hd (cs:=#[.bool false, .slice none 0 0]) (t:=24) ?hr ?_; (case hd => rfl); (case hg => rfl); (case hr => first | (go_simp; done)|(go_simp; rfl)|(go_simp; rw [show ∀ x : Int, IntKind.u32.wrap (IntKind.u8.wrap x) = x % 256 from fun x => (by show (x % 256) % 4294967296 = x % 256; omega)])); intro gb301 hg w54 hbox hb; have BK301 := zMk (hbox); have GW301 := zMk ((by rw [hg]; exact (zBs (uT HB.out)) : w.heap.size ≤ gb301)); have GE301 := zMk ((by rw [hg]; exact (zBs (uT HB.out)) : w.heap.size ≤ gb301)); have IGE301 := ownGe GE301.out; replace HB := zMk (zBt (uT HB.out) hb); have NB299_301 := zMk ((by rw [hg]; exact Nat.ne_of_lt (blk_lt BK299.out) : gb299 ≠ gb301)); have NB301_299 := zMk ((by rw [hg]; exact Nat.ne_of_gt (blk_lt BK299.out) : gb301 ≠ gb299)); replace BK299 := zMk (zKb BK299.out hb); have NB300_301 := zMk ((by rw [hg]; exact Nat.ne_of_lt (blk_lt BK300.out) : gb300 ≠ gb301)); have NB301_300 := zMk ((by rw [hg]; exact Nat.ne_of_gt (blk_lt BK300.out) : gb301 ≠ gb300)); replace BK300 := zMk (zKb BK300.out hb); clear hb hbox hg; have hnb55 := NB299_300.out; have hnc55 := NB300_299.out; have hnb56 := NB299_301.out; have hnc56 := NB301_299.out; have hcz57_0 : w54.cell? ⟨gb299, 0, none⟩ = some (.bool a0_0) := (zKc BK299.out 0).trans rfl; have hcz57_1 : w54.cell? ⟨gb299, 1, none⟩ = some (.slice A0_1 l0_1.length c0_1) := (zKc BK299.out 1).trans rfl; have hfz57_0 := zKf BK299.out 0; have hfz57_1 := zKf BK299.out 1; have hnb58 := NB300_301.out; have hnc58 := NB301_300.out; have hcz59_0 : w54.cell? ⟨gb300, 0, none⟩ = some (.bool a1_0) := (zKc BK300.out 0).trans rfl; have hcz59_1 : w54.cell? ⟨gb300, 1, none⟩ = some (.slice A1_1 l1_1.length c1_1) := (zKc BK300.out 1).trans rfl; have hfz59_0 := zKf BK300.out 0; have hfz59_1 := zKf BK300.out 1)|((with_reducible refine gate_callee (f:=12) rfl ?_); refine goesL_ (some 12) rfl rfl Tryd.func12 (by kernel_rfl) rfl #[.agg #[.bool a0_0, .slice A0_1 l0_1.length c0_1], .agg #[.bool a1_0, .slice A1_1 l1_1.length c1_1]] rfl (by (try simp only [zMa, zMc, zMn]); first |  done|  rfl|  (simp only [zLd, zLt]; rfl)) ?_; (with_reducible refine (integer_DivMod.calls k a0_0 _ _ l0_1 a1_0 _ _ l1_1 t302 t303 t306 t307 t310 _ ?side1 ?side2 ?side3 ?side4 A3.out).mono ?_); (case side1 => repeat (first |  exact (Kd.C_below HR0_1.out HB.out)|(with_reducible refine zCa ?_ _)|(with_reducible refine zCn ?_ _)|(with_reducible refine zCd ?_))); (case side2 => exact HC0_1.out); (case side3 => repeat (first |  exact (Kd.C_below HR1_1.out HB.out)|(with_reducible refine zCa ?_ _)|(with_reducible refine zCn ?_ _)|(with_reducible refine zCd ?_))); (case side4 => exact HC1_1.out); rintro e w60 ⟨v304, v308, rfl, ho0, ho1, hb⟩; refine ⟨_, rfl, ?_⟩; have HO305 := zMk (zRl ho0 (zBs (uT HB.out))); have HO309 := zMk (zRl ho1 (zBs (uT HB.out))); replace BK299 := zMk (zKb BK299.out hb); replace BK300 := zMk (zKb BK300.out hb); replace BK301 := zMk (zKb BK301.out hb); replace HB := zMk (zBt (uT HB.out) hb))|((with_reducible refine gate_dst (N:=6) rfl ?_); refine box_event ?hg (N:=6) ?hd (cs:=#[.bool false, .slice none 0 0]) (t:=24) ?hr ?_; (case hd => rfl); (case hg => rfl); (case hr => first | (go_simp; done)|(go_simp; rfl)|(go_simp; rw [show ∀ x : Int, IntKind.u32.wrap (IntKind.u8.wrap x) = x % 256 from fun x => (by show (x % 256) % 4294967296 = x % 256; omega)])); intro gb311 hg w61 hbox hb; replace HO305 := zMk (zRb (uR HO305.out) hb); replace HO309 := zMk (zRb (uR HO309.out) hb); have BK311 := zMk (hbox); have GW311 := zMk ((by rw [hg]; exact (zBs (uT HB.out)) : w.heap.size ≤ gb311)); have GE311 := zMk ((by rw [hg]; exact (zBs (uT HB.out)) : w.heap.size ≤ gb311)); have IGE311 := ownGe GE311.out; replace HB := zMk (zBt (uT HB.out) hb); have NB299_311 := zMk ((by rw [hg]; exact Nat.ne_of_lt (blk_lt BK299.out) : gb299 ≠ gb311)); have NB311_299 := zMk ((by rw [hg]; exact Nat.ne_of_gt (blk_lt BK299.out) : gb311 ≠ gb299)); replace BK299 := zMk (zKb BK299.out hb); have NB300_311 := zMk ((by rw [hg]; exact Nat.ne_of_lt (blk_lt BK300.out) : gb300 ≠ gb311)); have NB311_300 := zMk ((by rw [hg]; exact Nat.ne_of_gt (blk_lt BK300.out) : gb311 ≠ gb300)); replace BK300 := zMk (zKb BK300.out hb); have NB301_311 := zMk ((by rw [hg]; exact Nat.ne_of_lt (blk_lt BK301.out) : gb301 ≠ gb311)); have NB311_301 := zMk ((by rw [hg]; exact Nat.ne_of_gt (blk_lt BK301.out) : gb311 ≠ gb301)); replace BK301 := zMk (zKb BK301.out hb); clear hb hbox hg)|((with_reducible refine gate_dst (N:=7) rfl ?_); refine box_event ?hg (N:=7) ?hd (cs:=#[.bool false, .slice none 0 0]) (t:=24) ?hr ?_; (case hd => rfl); (case hg => rfl); (case hr => first | (go_simp; done)|(go_simp; rfl)|(go_simp; rw [show ∀ x : Int, IntKind.u32.wrap (IntKind.u8.wrap x) = x % 256 from fun x => (by show (x % 256) % 4294967296 = x % 256; omega)])); intro gb312 hg w62 hbox hb; replace HO305 := zMk (zRb (uR HO305.out) hb); replace HO309 := zMk (zRb (uR HO309.out) hb); have BK312 := zMk (hbox); have GW312 := zMk ((by rw [hg]; exact (zBs (uT HB.out)) : w.heap.size ≤ gb312)); have GE312 := zMk ((by rw [hg]; exact (zBs (uT HB.out)) : w.heap.size ≤ gb312)); have IGE312 := ownGe GE312.out; replace HB := zMk (zBt (uT HB.out) hb); have NB299_312 := zMk ((by rw [hg]; exact Nat.ne_of_lt (blk_lt BK299.out) : gb299 ≠ gb312)); have NB312_299 := zMk ((by rw [hg]; exact Nat.ne_of_gt (blk_lt BK299.out) : gb312 ≠ gb299)); replace BK299 := zMk (zKb BK299.out hb); have NB300_312 := zMk ((by rw [hg]; exact Nat.ne_of_lt (blk_lt BK300.out) : gb300 ≠ gb312)); have NB312_300 := zMk ((by rw [hg]; exact Nat.ne_of_gt (blk_lt BK300.out) : gb312 ≠ gb300)); replace BK300 := zMk (zKb BK300.out hb); have NB301_312 := zMk ((by rw [hg]; exact Nat.ne_of_lt (blk_lt BK301.out) : gb301 ≠ gb312)); have NB312_301 := zMk ((by rw [hg]; exact Nat.ne_of_gt (blk_lt BK301.out) : gb312 ≠ gb301)); replace BK301 := zMk (zKb BK301.out hb); have NB311_312 := zMk ((by rw [hg]; exact Nat.ne_of_lt (blk_lt BK311.out) : gb311 ≠ gb312)); have NB312_311 := zMk ((by rw [hg]; exact Nat.ne_of_gt (blk_lt BK311.out) : gb312 ≠ gb311)); replace BK311 := zMk (zKb BK311.out hb); clear hb hbox hg; have hnb63 := NB311_299.out; have hnc63 := NB299_311.out; have hnb64 := NB311_300.out; have hnc64 := NB300_311.out; have hnb65 := NB311_301.out; have hnc65 := NB301_311.out; have hnb66 := NB311_312.out; have hnc66 := NB312_311.out; have hcz67_0 : w62.cell? ⟨gb311, 0, none⟩ = some (.bool false) := (zKc BK311.out 0).trans rfl; have hcz67_1 : w62.cell? ⟨gb311, 1, none⟩ = some (.slice none 0 0) := (zKc BK311.out 1).trans rfl; have hfz67_0 := zKf BK311.out 0; have hfz67_1 := zKf BK311.out 1; obtain ⟨Ao68, co68, eo68⟩ := zRs HO305.out; subst eo68; have hnb69 := NB312_299.out; have hnc69 := NB299_312.out; have hnb70 := NB312_300.out; have hnc70 := NB300_312.out; have hnb71 := NB312_301.out; have hnc71 := NB301_312.out; have hcz72_0 : w62.cell? ⟨gb312, 0, none⟩ = some (.bool false) := (zKc BK312.out 0).trans rfl; have hcz72_1 : w62.cell? ⟨gb312, 1, none⟩ = some (.slice none 0 0) := (zKc BK312.out 1).trans rfl; have hfz72_0 := zKf BK312.out 0; have hfz72_1 := zKf BK312.out 1; obtain ⟨Ao73, co73, eo73⟩ := zRs HO309.out; subst eo73; have hcz74_0 : w62.cell? ⟨gb301, 0, none⟩ = some (.bool false) := (zKc BK301.out 0).trans rfl; have hcz74_1 : w62.cell? ⟨gb301, 1, none⟩ = some (.slice none 0 0) := (zKc BK301.out 1).trans rfl; have hfz74_0 := zKf BK301.out 0; have hfz74_1 := zKf BK301.out 1))
  refine bodyPost_ret (results_ct rfl _ _ gb301 24 #[.bool false, .slice none 0 0] (0, 0) _ rfl (by (with_reducible repeat (first | refine zKn ?_ _ | refine zKd ?_ | refine zKa ?_ _)); refine blk_put (cs:=#[.bool false, .slice none 0 0]) ?_ 1 _ rfl; (with_reducible repeat (first | refine zKn ?_ _ | refine zKd ?_ | refine zKa ?_ _)); refine blk_put (cs:=#[.bool false, .slice none 0 0]) ?_ 0 _ rfl; (with_reducible repeat (first | refine zKn ?_ _ | refine zKd ?_ | refine zKa ?_ _)); refine blk_far ?_ NB301_312.out _; (with_reducible repeat (first | refine zKn ?_ _ | refine zKd ?_ | refine zKa ?_ _)); refine blk_far ?_ NB301_312.out _; (with_reducible repeat (first | refine zKn ?_ _ | refine zKd ?_ | refine zKa ?_ _)); refine blk_far ?_ NB301_311.out _; (with_reducible repeat (first | refine zKn ?_ _ | refine zKd ?_ | refine zKa ?_ _)); refine blk_far ?_ NB301_311.out _; (with_reducible repeat (first | refine zKn ?_ _ | refine zKd ?_ | refine zKa ?_ _)); exact BK301.out) Tryd.underlying24 rfl (by kernel_rfl)) rfl ?_
  exact ⟨_, by first | rfl | (simp [errW_none, errW_some] <;> rfl) | (simp [*, errW_none, errW_some] <;> rfl), by first | exact Kd.R_nil _ _ _ _ _ | exact Kd.N_nil _ _ _ _ _ | exact Kd.V_nil _ _ _ _ _ | exact Kd.Q_nil _ _ _ _ _ | exact Kd.S_nil _ _ _ _ _, by exact uT HB.out⟩


def strconv_small.f (a0 : Int) : Option (ByteArray) := if a0 < 10 then (if 0 ≤ a0 then (if a0 ≤ (wrap64 (a0 + 1)) then (if (wrap64 (a0 + 1)) ≤ 36 then (some ((⟨#[48, 49, 50, 51, 52, 53, 54, 55, 56, 57, 97, 98, 99, 100, 101, 102, 103, 104, 105, 106, 107, 108, 109, 110, 111, 112, 113, 114, 115, 116, 117, 118, 119, 120, 121, 122]⟩ : ByteArray).extract (a0 : Int).toNat ((wrap64 (a0 + 1)) : Int).toNat)) else (none)) else (none)) else (none)) else (if 0 ≤ (wrap64 (a0 * 2)) then (if (wrap64 (a0 * 2)) ≤ (wrap64 ((wrap64 (a0 * 2)) + 2)) then (if (wrap64 ((wrap64 (a0 * 2)) + 2)) ≤ 200 then (some ((⟨#[48, 48, 48, 49, 48, 50, 48, 51, 48, 52, 48, 53, 48, 54, 48, 55, 48, 56, 48, 57, 49, 48, 49, 49, 49, 50, 49, 51, 49, 52, 49, 53, 49, 54, 49, 55, 49, 56, 49, 57, 50, 48, 50, 49, 50, 50, 50, 51, 50, 52, 50, 53, 50, 54, 50, 55, 50, 56, 50, 57, 51, 48, 51, 49, 51, 50, 51, 51, 51, 52, 51, 53, 51, 54, 51, 55, 51, 56, 51, 57, 52, 48, 52, 49, 52, 50, 52, 51, 52, 52, 52, 53, 52, 54, 52, 55, 52, 56, 52, 57, 53, 48, 53, 49, 53, 50, 53, 51, 53, 52, 53, 53, 53, 54, 53, 55, 53, 56, 53, 57, 54, 48, 54, 49, 54, 50, 54, 51, 54, 52, 54, 53, 54, 54, 54, 55, 54, 56, 54, 57, 55, 48, 55, 49, 55, 50, 55, 51, 55, 52, 55, 53, 55, 54, 55, 55, 55, 56, 55, 57, 56, 48, 56, 49, 56, 50, 56, 51, 56, 52, 56, 53, 56, 54, 56, 55, 56, 56, 56, 57, 57, 48, 57, 49, 57, 50, 57, 51, 57, 52, 57, 53, 57, 54, 57, 55, 57, 56, 57, 57]⟩ : ByteArray).extract ((wrap64 (a0 * 2)) : Int).toNat ((wrap64 ((wrap64 (a0 * 2)) + 2)) : Int).toNat)) else (none)) else (none)) else (none))
theorem strconv_small.calls (a0 : Int) (r : ByteArray) (w : World) (h : strconv_small.f a0 = some r) :
  Calls Tryd.prog 97 #[.int .i64 a0] w fun e w' => e = .returned (.string r) ∧ Drawn0 w w' := by
 have H : (if a0 < 10 then (if 0 ≤ a0 then (if a0 ≤ (wrap64 (a0 + 1)) then (if (wrap64 (a0 + 1)) ≤ 36 then (some ((⟨#[48, 49, 50, 51, 52, 53, 54, 55, 56, 57, 97, 98, 99, 100, 101, 102, 103, 104, 105, 106, 107, 108, 109, 110, 111, 112, 113, 114, 115, 116, 117, 118, 119, 120, 121, 122]⟩ : ByteArray).extract (a0 : Int).toNat ((wrap64 (a0 + 1)) : Int).toNat)) else (none)) else (none)) else (none)) else (if 0 ≤ (wrap64 (a0 * 2)) then (if (wrap64 (a0 * 2)) ≤ (wrap64 ((wrap64 (a0 * 2)) + 2)) then (if (wrap64 ((wrap64 (a0 * 2)) + 2)) ≤ 200 then (some ((⟨#[48, 48, 48, 49, 48, 50, 48, 51, 48, 52, 48, 53, 48, 54, 48, 55, 48, 56, 48, 57, 49, 48, 49, 49, 49, 50, 49, 51, 49, 52, 49, 53, 49, 54, 49, 55, 49, 56, 49, 57, 50, 48, 50, 49, 50, 50, 50, 51, 50, 52, 50, 53, 50, 54, 50, 55, 50, 56, 50, 57, 51, 48, 51, 49, 51, 50, 51, 51, 51, 52, 51, 53, 51, 54, 51, 55, 51, 56, 51, 57, 52, 48, 52, 49, 52, 50, 52, 51, 52, 52, 52, 53, 52, 54, 52, 55, 52, 56, 52, 57, 53, 48, 53, 49, 53, 50, 53, 51, 53, 52, 53, 53, 53, 54, 53, 55, 53, 56, 53, 57, 54, 48, 54, 49, 54, 50, 54, 51, 54, 52, 54, 53, 54, 54, 54, 55, 54, 56, 54, 57, 55, 48, 55, 49, 55, 50, 55, 51, 55, 52, 55, 53, 55, 54, 55, 55, 55, 56, 55, 57, 56, 48, 56, 49, 56, 50, 56, 51, 56, 52, 56, 53, 56, 54, 56, 55, 56, 56, 56, 57, 57, 48, 57, 49, 57, 50, 57, 51, 57, 52, 57, 53, 57, 54, 57, 55, 57, 56, 57, 57]⟩ : ByteArray).extract ((wrap64 (a0 * 2)) : Int).toNat ((wrap64 ((wrap64 (a0 * 2)) + 2)) : Int).toNat)) else (none)) else (none)) else (none))) = some r := h
 clear h
 by_cases c2 : a0 < 10
 ·rw [if_pos c2] at H
  have c2b0 : decide (a0 < 10) = true := decide_eq_true c2
  clear c2
  by_cases c3 : 0 ≤ a0
  rotate_left
  ·rw [if_neg c3] at H; exact absurd H (by simp)
  rw [if_pos c3] at H
  have c3b0 := eq_true c3
  have c3b1 : decide (0 ≤ a0) = true := decide_eq_true c3
  clear c3
  by_cases c4 : a0 ≤ (wrap64 (a0 + 1))
  rotate_left
  ·rw [if_neg c4] at H; exact absurd H (by simp)
  rw [if_pos c4] at H
  have c4b0 := eq_true c4
  have c4b1 : decide (a0 ≤ (wrap64 (a0 + 1))) = true := decide_eq_true c4
  by_cases c5 : (wrap64 (a0 + 1)) ≤ 36
  rotate_left
  ·rw [if_neg c5] at H; exact absurd H (by simp)
  rw [if_pos c5] at H
  have c5b0 := eq_true c5
  have c5b1 : decide ((wrap64 (a0 + 1)) ≤ 36) = true := decide_eq_true c5
  obtain rfl := zOi H
  go_enter Tryd.func97, Tryd.ntmps97
  go_wp2
  go_ret
  exact ⟨by first | rfl | (simp; done) | (simp [*]; done), by repeat (first | exact Drawn0.refl _ | apply Drawn0.step)⟩
 ·rw [if_neg c2] at H
  have c2b0 : decide (a0 < 10) = false := decide_eq_false c2
  clear c2
  obtain ⟨ji6, hji6⟩ : ∃ j_ : Int, (wrap64 (a0 * 2)) = j_ := ⟨_, rfl⟩
  replace H : (if 0 ≤ (ji6) then (if (ji6) ≤ (wrap64 ((ji6) + 2)) then (if (wrap64 ((ji6) + 2)) ≤ 200 then (some ((⟨#[48, 48, 48, 49, 48, 50, 48, 51, 48, 52, 48, 53, 48, 54, 48, 55, 48, 56, 48, 57, 49, 48, 49, 49, 49, 50, 49, 51, 49, 52, 49, 53, 49, 54, 49, 55, 49, 56, 49, 57, 50, 48, 50, 49, 50, 50, 50, 51, 50, 52, 50, 53, 50, 54, 50, 55, 50, 56, 50, 57, 51, 48, 51, 49, 51, 50, 51, 51, 51, 52, 51, 53, 51, 54, 51, 55, 51, 56, 51, 57, 52, 48, 52, 49, 52, 50, 52, 51, 52, 52, 52, 53, 52, 54, 52, 55, 52, 56, 52, 57, 53, 48, 53, 49, 53, 50, 53, 51, 53, 52, 53, 53, 53, 54, 53, 55, 53, 56, 53, 57, 54, 48, 54, 49, 54, 50, 54, 51, 54, 52, 54, 53, 54, 54, 54, 55, 54, 56, 54, 57, 55, 48, 55, 49, 55, 50, 55, 51, 55, 52, 55, 53, 55, 54, 55, 55, 55, 56, 55, 57, 56, 48, 56, 49, 56, 50, 56, 51, 56, 52, 56, 53, 56, 54, 56, 55, 56, 56, 56, 57, 57, 48, 57, 49, 57, 50, 57, 51, 57, 52, 57, 53, 57, 54, 57, 55, 57, 56, 57, 57]⟩ : ByteArray).extract ((ji6) : Int).toNat ((wrap64 ((ji6) + 2)) : Int).toNat)) else (none)) else (none)) else (none)) = some r := by first | (rw [hji6] at H; exact H) | (simp only [hji6] at H ⊢; exact H)
  have hji6w : (IntKind.i64.wrap (a0 * 2)) = ji6 := (i64_w _).trans hji6
  by_cases c7 : 0 ≤ (ji6)
  ·rw [if_pos c7] at H
   have c7b0 := eq_true c7
   have c7b1 : decide (0 ≤ (ji6)) = true := decide_eq_true c7
   clear c7
   by_cases c8 : (ji6) ≤ (wrap64 ((ji6) + 2))
   rotate_left
   ·rw [if_neg c8] at H; exact absurd H (by simp)
   rw [if_pos c8] at H
   have c8b0 := eq_true c8
   have c8b1 : decide ((ji6) ≤ (wrap64 ((ji6) + 2))) = true := decide_eq_true c8
   by_cases c9 : (wrap64 ((ji6) + 2)) ≤ 200
   rotate_left
   ·rw [if_neg c9] at H; exact absurd H (by simp)
   rw [if_pos c9] at H
   have c9b0 := eq_true c9
   have c9b1 : decide ((wrap64 ((ji6) + 2)) ≤ 200) = true := decide_eq_true c9
   obtain rfl := zOi H
   go_enter Tryd.func97, Tryd.ntmps97
   go_wp2
   go_ret
   exact ⟨by first | rfl | (simp; done) | (simp only [← hji6] <;> (first | rfl | simp)) | (simp [*]; done), by repeat (first | exact Drawn0.refl _ | apply Drawn0.step)⟩
  ·rw [if_neg c7] at H
   exact absurd H (by simp)



def strconv_FormatInt.f (a0 a1 : Int) : Option ByteArray := if 0 ≤ a0 then if a0 < 100 then if a1 = 10 then strconv_small.f a0 else none else none else none
theorem strconv_FormatInt.calls (a0 a1 : Int) (r : ByteArray) (w : World) (h : strconv_FormatInt.f a0 a1 = some r) :
    Calls Tryd.prog 92 #[.int .i64 a0, .int .i64 a1] w fun e w' => e = .returned (.string r) ∧ Drawn0 w w' := by
  unfold strconv_FormatInt.f at h
  by_cases h0 : 0 ≤ a0
  · by_cases h1 : a0 < 100
    · by_cases h2 : a1 = 10
      · rw [if_pos h0, if_pos h1, if_pos h2] at h
        subst h2
        have HH := zMk h
        clear h
        have d0 : decide (0 ≤ a0) = true := decide_eq_true h0
        have d1 : decide (a0 < 100) = true := decide_eq_true h1
        go_enter Tryd.func92, Tryd.ntmps92
        go_wp2_with (go_at_call 97; refine (strconv_small.calls a0 r _ HH.out).mono ?_; rintro e w' ⟨rfl, ⟨nd, rfl⟩⟩)
        go_ret
        exact ⟨rfl, ⟨_, rfl⟩⟩
      · rw [if_pos h0, if_pos h1, if_neg h2] at h; cases h
    · rw [if_pos h0, if_neg h1] at h; cases h
  · rw [if_neg h0] at h; cases h


def strconv_Itoa_85.f (a0 : Int) : Option (ByteArray) := (strconv_FormatInt.f a0 10).bind fun t337 => (some t337)
theorem strconv_Itoa_85.calls (a0 : Int) (r : ByteArray) (w : World) (h : strconv_Itoa_85.f a0 = some r) :
    Calls Tryd.prog 85 #[.int .i64 a0] w fun e w' => e = .returned (.string r) ∧ Drawn0 w w' := by
  have H : ((strconv_FormatInt.f a0 10).bind fun t337 => (some t337)) = some r := h
  clear h
  replace H := bnd H
  obtain ⟨t337, A20, H⟩ := H
  have A2 := zMk A20
  clear A20
  obtain rfl := zOi H
  go_enter Tryd.func85, Tryd.ntmps85
  go_wp2_with (first | ((with_reducible refine gate_callee (f:=92) rfl ?_); refine goesL_ (some 4) rfl rfl Tryd.func92 (by kernel_rfl) rfl #[.int .i64 a0, .int .i64 10] rfl (by (try simp only [zMa, zMc, zMn]); first | done | rfl | (simp only [zLd, zLt]; rfl)) ?_; (with_reducible refine (strconv_FormatInt.calls a0 10 t337 _ A2.out).mono ?_); rintro e w' ⟨rfl, ⟨nd, rfl⟩⟩; refine ⟨_, rfl, ?_⟩))
  go_ret
  exact ⟨by first | rfl | (simp; done) | (simp [*]; done), by repeat (first | exact Drawn0.refl _ | apply Drawn0.step)⟩


def strconv_Itoa_74.f (a0 : Int) : Option (ByteArray) := (strconv_Itoa_85.f a0).bind fun t338 => (some t338)
theorem strconv_Itoa_74.calls (a0 : Int) (r : ByteArray) (w : World) (h : strconv_Itoa_74.f a0 = some r) :
    Calls Tryd.prog 74 #[.int .i64 a0] w fun e w' => e = .returned (.string r) ∧ Drawn0 w w' := by
  have H : ((strconv_Itoa_85.f a0).bind fun t338 => (some t338)) = some r := h
  clear h
  replace H := bnd H
  obtain ⟨t338, A20, H⟩ := H
  have A2 := zMk A20
  clear A20
  obtain rfl := zOi H
  go_enter Tryd.func74, Tryd.ntmps74
  go_wp2_with (first | ((with_reducible refine gate_callee (f:=85) rfl ?_); refine goesL_ (some 4) rfl rfl Tryd.func85 (by kernel_rfl) rfl #[.int .i64 a0] rfl (by (try simp only [zMa, zMc, zMn]); first | done | rfl | (simp only [zLd, zLt]; rfl)) ?_; (with_reducible refine (strconv_Itoa_85.calls a0 t338 _ A2.out).mono ?_); rintro e w' ⟨rfl, ⟨nd, rfl⟩⟩; refine ⟨_, rfl, ?_⟩))
  go_ret
  exact ⟨by first | rfl | (simp; done) | (simp [*]; done), by repeat (first | exact Drawn0.refl _ | apply Drawn0.step)⟩


def slices_Reverse_string_string.l0 : Nat → List ByteArray → Int → Int → Option (List ByteArray)
 | 0, _, _, _ => none
 | k + 1, x0, x2, x3 => if x2 < x3 then (if 0 ≤ x3 then (if x3 < (x0.length : Int) then (if 0 ≤ x2 then (if x2 < (x0.length : Int) then (slices_Reverse_string_string.l0 k ((x0.set (x2 : Int).toNat (rdOf ByteArray.empty x0 x3)).set (x3 : Int).toNat (rdOf ByteArray.empty x0 x2)) (wrap64 (x2 + 1)) (wrap64 (x3 - 1))) else (none)) else (none)) else (none)) else (none)) else (some x0)
def slices_Reverse_string_string.f (k : Nat) (l0 : List ByteArray) : Option (List ByteArray) := slices_Reverse_string_string.l0 k l0 0 (wrap64 ((l0.length : Int) - 1))
def slices_Reverse_string_string.T3 : Bool × List (List Nat × List Nat) := (true, [([], []), ([], []), ([], []), ([], []), ([], []), ([], []), ([4, 5], [4, 5]), ([6], [6]), ([], []), ([], []), ([8, 9], [8, 9]), ([10], [10]), ([0, 1, 0, 1, 4, 5, 6, 7, 11], [0, 1]), ([12, 7, 0, 1, 4, 5, 6, 7, 11], [7, 12]), ([2, 3, 0, 1, 2, 3, 4, 5, 6, 7, 8, 9, 10, 11, 12, 13], [2, 3]), ([14, 11, 13, 0, 1, 2, 3, 4, 5, 6, 7, 8, 9, 10, 11, 12, 13], [11, 14])])
def slices_Reverse_string_string.B3 : List Nat := [0, 0, 0, 0, 0, 0, 48, 112, 0, 0, 768, 1792, 4083, 8179, 16383, 32767]
theorem slices_Reverse_string_string.tab3 : rtab .any (opsOf Tryd.f75 3) = slices_Reverse_string_string.T3 := by kernel_rfl
theorem slices_Reverse_string_string.bits3 : waitsOk slices_Reverse_string_string.T3.2 slices_Reverse_string_string.B3 = true := by kernel_rfl
theorem slices_Reverse_string_string.calls (k : Nat) (P0_ : Nat → Prop) (u9000_ : Value) (l0 : List ByteArray) (r : List ByteArray) (w0 w : World) (hB : Below w0.heap.size w0 w) (ho0 : Kd.R Kd.string 9 w w0.heap.size P0_ u9000_ l0) (h : slices_Reverse_string_string.f k l0 = some r) :
  Calls Tryd.prog 75 #[u9000_] w fun e w' => e = .returned (.tuple #[]) ∧ Kd.R Kd.string 9 w' w0.heap.size (fun k_ => (P0_ k_ ∨ w.heap.size ≤ k_)) u9000_ r ∧ Below w0.heap.size w0 w' ∧ Kept w w' (fun k_ => P0_ k_) := by
 have HO0 := zMk (show Kd.R Kd.string 9 w w0.heap.size (fun k_ => (P0_ k_ ∨ w.heap.size ≤ k_)) u9000_ l0 from zRm ho0 (fun k_ hk => (.inl hk)))
 have HK := zMk (Kept.refl w (fun k_ => P0_ k_))
 have HW0 := zMk hB.size
 have HB := zMk hB
 clear hB
 have H : (slices_Reverse_string_string.l0 k l0 0 (wrap64 ((l0.length : Int) - 1))) = some r := h
 clear h
 have H' := zMk H
 clear H
 obtain ⟨Ao2, co2, eo2⟩ := zRs HO0.out
 subst eo2
 go_enter Tryd.func75, Tryd.ntmps75
 go_wp2
 go_loopg [2, 3] k (fun kq v2 v3 w' => ∃ (x0_1 : List ByteArray) (x2_1 : Int) (x3_1 : Int), v2 = .int .i64 x2_1 ∧ v3 = .int .i64 x3_1 ∧ Aside0 (slices_Reverse_string_string.l0 kq x0_1 x2_1 x3_1 = some r) ∧ Aside0 (kq ≤ k) ∧ Aside0 (Kd.R Kd.string 9 w' w0.heap.size (fun k_ => (P0_ k_ ∨ w.heap.size ≤ k_)) (.slice Ao2 l0.length co2) x0_1) ∧ Aside0 (Kept w w' (fun k_ => P0_ k_)) ∧ Aside0 (Below w0.heap.size w0 w'))
 case atStart => exact ⟨(l0), (0), (wrap64 ((l0.length : Int) - 1)), (by first | rfl | (simp; done) | (simp [*]; done)), (by first | rfl | (simp; done) | (simp [*]; done)), H', ⟨Nat.le_refl _⟩, ⟨by exact uR HO0.out⟩, ⟨by repeat (first | (with_reducible first | exact HK.out | apply Kept.alloc | apply Kept.drewN | apply Kept.drew) | exact HK.out)⟩, ⟨by exact uT HB.out⟩⟩
 clear H'
 obtain ⟨x0_1, x2_1, x3_1, rfl, rfl, HA, HK1, HO_0, HK, HB⟩ := hrel
 have hl0_1 := (zRr HO_0.out).1
 rw [hl0_1] at HO_0
 (try simp only [hl0_1])
 rcases gk with _ | k1
 ·exact absurd HA.out (by simp [slices_Reverse_string_string.l0])
 have H := HA.out
 clear HA
 simp only [slices_Reverse_string_string.l0] at H
 by_cases c3 : x2_1 < x3_1
 ·rw [if_pos c3] at H
  have c3b0 : decide (x2_1 < x3_1) = true := decide_eq_true c3
  (try (have c3b0l := c3b0; simp only [hl0_1] at c3b0l))
  clear c3
  by_cases c4 : 0 ≤ x3_1
  rotate_left
  ·rw [if_neg c4] at H; exact absurd H (by simp)
  rw [if_pos c4] at H
  have c4b0 : decide (0 ≤ x3_1) = true := decide_eq_true c4
  (try (have c4b0l := c4b0; simp only [hl0_1] at c4b0l))
  clear c4
  by_cases c5 : x3_1 < (x0_1.length : Int)
  rotate_left
  ·rw [if_neg c5] at H; exact absurd H (by simp)
  rw [if_pos c5] at H
  have c5b0 : decide (x3_1 < (x0_1.length : Int)) = true := decide_eq_true c5
  (try (have c5b0l := c5b0; simp only [hl0_1] at c5b0l))
  clear c5
  by_cases c6 : 0 ≤ x2_1
  rotate_left
  ·rw [if_neg c6] at H; exact absurd H (by simp)
  rw [if_pos c6] at H
  have c6b0 : decide (0 ≤ x2_1) = true := decide_eq_true c6
  (try (have c6b0l := c6b0; simp only [hl0_1] at c6b0l))
  clear c6
  by_cases c7 : x2_1 < (x0_1.length : Int)
  rotate_left
  ·rw [if_neg c7] at H; exact absurd H (by simp)
  rw [if_pos c7] at H
  have c7b0 : decide (x2_1 < (x0_1.length : Int)) = true := decide_eq_true c7
  (try (have c7b0l := c7b0; simp only [hl0_1] at c7b0l))
  clear c7
  obtain ⟨y341, hy341⟩ : ∃ y_ : List ByteArray, y_ = (x0_1.set (x2_1 : Int).toNat (rdOf ByteArray.empty x0_1 x3_1)) := ⟨_, rfl⟩
  replace H : (slices_Reverse_string_string.l0 k1 (y341.set (x3_1 : Int).toNat (rdOf ByteArray.empty x0_1 x2_1)) (wrap64 (x2_1 + 1)) (wrap64 (x3_1 - 1))) = some r := by first | (rw [hy341]; with_reducible exact H) | (have H2_ := bsm H; first | (rw [hy341]; with_reducible exact H2_) | with_reducible exact H2_) | with_reducible exact H | (rw [hy341]; exact H) | exact H
  have Ny341 := zMk hy341
  clear hy341
  obtain ⟨y342, hy342⟩ : ∃ y_ : List ByteArray, y_ = (y341.set (x3_1 : Int).toNat (rdOf ByteArray.empty x0_1 x2_1)) := ⟨_, rfl⟩
  replace H : (slices_Reverse_string_string.l0 k1 y342 (wrap64 (x2_1 + 1)) (wrap64 (x3_1 - 1))) = some r := by first | (rw [hy342]; with_reducible exact H) | (have H2_ := bsm H; first | (rw [hy342]; with_reducible exact H2_) | with_reducible exact H2_) | with_reducible exact H | (rw [hy342]; exact H) | exact H
  have Ny342 := zMk hy342
  clear hy342
  have H' := zMk H
  clear H
  try go_wp2
  replace HO_0 := zMk (zRd HO_0.out)
  replace HK := zMk (Kept.drew HK.out)
  replace HB := zMk (zBd HB.out)
  have p339 : 0 ≤ (x3_1 : Int) := of_decide_eq_true (by assumption)
  have q339 : x3_1 < (x0_1.length : Int) := of_decide_eq_true (by assumption)
  obtain ⟨ad339, e339, hx339_0⟩ := Kd.at_string (zRr HO_0.out).2.2 x3_1 p339 q339
  cases e339
  replace p339 := eq_true p339
  replace q339 := eq_true q339
  have p340 : 0 ≤ (x2_1 : Int) := of_decide_eq_true (by assumption)
  have q340 : x2_1 < (x0_1.length : Int) := of_decide_eq_true (by assumption)
  obtain ⟨ad340, e340, hx340_0⟩ := Kd.at_string (zRr HO_0.out).2.2 x2_1 p340 q340
  obtain rfl : ad339 = ad340 := (by injection e340)
  replace p340 := eq_true p340
  replace q340 := eq_true q340
  have p8 : 0 ≤ (x2_1 : Int) := of_decide_eq_true (by assumption)
  have q8 : (x2_1 : Int) < ((x0_1.length : Int) : Int) := of_decide_eq_true (by assumption)
  obtain ⟨go8, co8, eo8, gb8, gl8, cl8, HG8⟩ := Kd.R_form HO_0.out (by omega)
  (first |  cases eo8|  (injection eo8 with ea_ en_ ec_; (first |  subst ea_|  (injection ea_ with ea_; subst ea_)); subst ec_; clear en_))
  have GB8 := zMk gb8
  have IGB8 := ownGe GB8.out
  have GG8 := zMk HG8
  clear gb8 gl8 HG8
  have HMgo8 := zMk (show (P0_ go8 ∨ w.heap.size ≤ go8) from (HO_0.out.1 _ rfl))
  (first | simp only [add_plain] at hx339_0 | skip)
  (first | simp only [add_plain] at hx340_0 | skip)
  obtain ⟨hx8_0, hf8_0⟩ := Kd.R_celln (⟨#[]⟩ : ByteArray) HO_0.out (x2_1 : Int) p8 q8
  replace p8 := eq_true p8
  replace q8 := eq_true q8
  have HP11 := Kd.R_putn HO_0.out (x2_1 : Int) (rdOf ByteArray.empty x0_1 x3_1)
  rw [← Ny341.out] at HP11
  have HQ11 := zMk HP11
  clear HP11
  have p9 : 0 ≤ (x3_1 : Int) := of_decide_eq_true (by assumption)
  have q9 : (x3_1 : Int) < ((x0_1.length : Int) : Int) := of_decide_eq_true (by assumption)
  obtain ⟨hx9_0, hf9_0⟩ := Kd.R_celln (⟨#[]⟩ : ByteArray) HQ11.out (x3_1 : Int) p9 q9
  replace p9 := eq_true p9
  replace q9 := eq_true q9
  have HP12 := Kd.R_putn HQ11.out (x3_1 : Int) (rdOf ByteArray.empty x0_1 x2_1)
  rw [← Ny342.out] at HP12
  have HQ12 := zMk HP12
  clear HP12
  refine start_ (n:=16) (S:=fun w' => w'.cell? ⟨go8, (x3_1).toNat, none⟩ = some (.string (rdOf ByteArray.empty x0_1 x3_1)) ∧ w'.cell? ⟨go8, (x2_1).toNat, none⟩ = some (.string (rdOf ByteArray.empty x0_1 x2_1))) (ds:=[13, 15]) #[false,false,false,false,false,false,false,false,false,false,false,false,false,false,false,false] (by kernel_rfl) rfl rfl ⟨hx339_0, hx340_0⟩ (fun hHeld => ?_); refine with_tabW slices_Reverse_string_string.tab3 slices_Reverse_string_string.bits3 (fun HT_ HW_ => ?_)
  generalize wr.drew = w10 at HO_0 HK HB GG8 HQ11 HQ12 hf8_0 hf9_0 hx339_0 hx340_0 hx8_0 hx9_0 hHeld ⊢
  refine pure_ (i:=0) (N:=some 14) (v:=?_) (a' := ?_) #[true,false,false,false,false,false,false,false,false,false,false,false,false,false,false,false] rfl rfl (any_of HT_.out (by kernel_rfl)) (fun _ _ _ h => h) (Or.inl ⟨by rfl, ?_⟩) ?_ ?_
  rotate_left
  ·intro w'
   go_simp
   with_reducible rfl
  rotate_left
  ·simp only [Act.put, zSa, zSb, zSc, i64_w, i32_w]
   rfl
  refine pure_ (i:=1) (N:=some 15) (v:=?_) (a' := ?_) #[true,true,false,false,false,false,false,false,false,false,false,false,false,false,false,false] rfl rfl (any_of HT_.out (by kernel_rfl)) (fun _ _ _ h => h) (Or.inl ⟨by rfl, ?_⟩) ?_ ?_
  rotate_left
  ·intro w'
   go_simp
   with_reducible rfl
  rotate_left
  ·simp only [Act.put, zSa, zSb, zSc, i64_w, i32_w]
   rfl
  refine pure_ (i:=2) (N:=some 16) (v:=?_) (a' := ?_) #[true,true,true,false,false,false,false,false,false,false,false,false,false,false,false,false] rfl rfl (any_of HT_.out (by kernel_rfl)) (fun _ _ _ h => h) (Or.inl ⟨by rfl, ?_⟩) ?_ ?_
  rotate_left
  ·intro w'
   go_simp
   with_reducible rfl
  rotate_left
  ·simp only [Act.put, zSa, zSb, zSc, i64_w, i32_w]
   rfl
  refine pure_ (i:=3) (N:=some 17) (v:=?_) (a' := ?_) #[true,true,true,true,false,false,false,false,false,false,false,false,false,false,false,false] rfl rfl (any_of HT_.out (by kernel_rfl)) (fun _ _ _ h => h) (Or.inl ⟨by rfl, ?_⟩) ?_ ?_
  rotate_left
  ·intro w'
   go_simp
   with_reducible rfl
  rotate_left
  ·simp only [Act.put, zSa, zSb, zSc, i64_w, i32_w]
   rfl
  refine pure_ (i:=4) (N:=some 18) (v:=?_) (a' := ?_) #[true,true,true,true,true,false,false,false,false,false,false,false,false,false,false,false] rfl rfl (any_of HT_.out (by kernel_rfl)) (fun _ _ _ h => h) (Or.inl ⟨by rfl, ?_⟩) ?_ ?_
  rotate_left
  ·intro w'
   go_simp
   with_reducible rfl
  rotate_left
  ·simp only [Act.put, zSa, zSb, zSc, i64_w, i32_w]
   rfl
  refine pure_ (i:=5) (N:=some 19) (v:=?_) (a' := ?_) #[true,true,true,true,true,true,false,false,false,false,false,false,false,false,false,false] rfl rfl (any_of HT_.out (by kernel_rfl)) (fun _ _ _ h => h) (Or.inl ⟨by rfl, ?_⟩) ?_ ?_
  rotate_left
  ·intro w'
   go_simp
   with_reducible rfl
  rotate_left
  ·simp only [Act.put, zSa, zSb, zSc, i64_w, i32_w]
   rfl
  refine pure_ (i:=6) (N:=some 20) (v:=?_) (a' := ?_) #[true,true,true,true,true,true,true,false,false,false,false,false,false,false,false,false] rfl rfl (any_of HT_.out (by kernel_rfl)) (fun _ _ _ h => h) (Or.inl ⟨by rfl, ?_⟩) ?_ ?_
  rotate_left
  ·intro w'
   go_simp
   with_reducible rfl
  rotate_left
  ·simp only [Act.put, zSa, zSb, zSc, i64_w, i32_w]
   rfl
  refine pure_ (i:=8) (N:=some 22) (v:=?_) (a' := ?_) #[true,true,true,true,true,true,true,false,true,false,false,false,false,false,false,false] rfl rfl (any_of HT_.out (by kernel_rfl)) (fun _ _ _ h => h) (Or.inl ⟨by rfl, ?_⟩) ?_ ?_
  rotate_left
  ·intro w'
   go_simp
   with_reducible rfl
  rotate_left
  ·simp only [Act.put, zSa, zSb, zSc, i64_w, i32_w]
   rfl
  refine pure_ (i:=9) (N:=some 23) (v:=?_) (a' := ?_) #[true,true,true,true,true,true,true,false,true,true,false,false,false,false,false,false] rfl rfl (any_of HT_.out (by kernel_rfl)) (fun _ _ _ h => h) (Or.inl ⟨by rfl, ?_⟩) ?_ ?_
  rotate_left
  ·intro w'
   go_simp
   with_reducible rfl
  rotate_left
  ·simp only [Act.put, zSa, zSb, zSc, i64_w, i32_w]
   rfl
  refine pure_ (i:=10) (N:=some 24) (v:=?_) (a' := ?_) #[true,true,true,true,true,true,true,false,true,true,true,false,false,false,false,false] rfl rfl (any_of HT_.out (by kernel_rfl)) (fun _ _ _ h => h) (Or.inl ⟨by rfl, ?_⟩) ?_ ?_
  rotate_left
  ·intro w'
   go_simp
   with_reducible rfl
  rotate_left
  ·simp only [Act.put, zSa, zSb, zSc, i64_w, i32_w]
   rfl
  refine take_ (i:=7) (N:=some 21) (v:=?_) (a' := ?_) #[true,true,true,true,true,true,true,true,true,true,true,false,false,false,false,false] rfl rfl (take_ofW HT_.out HW_.out (by kernel_rfl)) (fun _ _ _ h => h) (Or.inl ⟨by rfl, ?_⟩) hHeld ?_ ?_
  rotate_left
  ·rintro w' ⟨s0, s1⟩
   go_simp
   with_reducible rfl
  rotate_left
  ·simp only [Act.put, zSa, zSb, zSc, i64_w, i32_w]
   rfl
  refine take_ (i:=11) (N:=some 25) (v:=?_) (a' := ?_) #[true,true,true,true,true,true,true,true,true,true,true,true,false,false,false,false] rfl rfl (take_ofW HT_.out HW_.out (by kernel_rfl)) (fun _ _ _ h => h) (Or.inl ⟨by rfl, ?_⟩) hHeld ?_ ?_
  rotate_left
  ·rintro w' ⟨s0, s1⟩
   go_simp
   with_reducible rfl
  rotate_left
  ·simp only [Act.put, zSa, zSb, zSc, i64_w, i32_w]
   rfl
  refine pure_ (i:=12) (N:=some 26) (v:=?_) (a' := ?_) #[true,true,true,true,true,true,true,true,true,true,true,true,true,false,false,false] rfl rfl (any_of HT_.out (by kernel_rfl)) (fun _ _ _ h => h) (Or.inl ⟨by rfl, ?_⟩) ?_ ?_
  rotate_left
  ·intro w'
   go_simp
   with_reducible rfl
  rotate_left
  ·simp only [Act.put, zSa, zSb, zSc, i64_w, i32_w]
   rfl
  refine last_ (i:=13) (N:=none) #[true,true,true,true,true,true,true,true,true,true,true,true,true,true,false,false] rfl rfl (one_of HT_.out (by kernel_rfl)) (by decide) (fun K hK => ?_)
  refine skip_ (w1:=?_) (by rfl) rfl ?_ ?_
  rotate_left
  ·go_simp
   rfl
  refine hK.out _ _ ?_
  clear hK K
  refine pure_ (i:=14) (N:=some 27) (v:=?_) (a' := ?_) #[true,true,true,true,true,true,true,true,true,true,true,true,true,true,true,false] rfl rfl (any_of HT_.out (by kernel_rfl)) (fun _ _ _ h => h) (Or.inl ⟨by rfl, ?_⟩) ?_ ?_
  rotate_left
  ·intro w'
   go_simp
   with_reducible rfl
  rotate_left
  ·simp only [Act.put, zSa, zSb, zSc, i64_w, i32_w]
   rfl
  refine last_ (i:=15) (N:=none) #[true,true,true,true,true,true,true,true,true,true,true,true,true,true,true,true] rfl rfl (one_of HT_.out (by kernel_rfl)) (by decide) (fun K hK => ?_)
  refine skip_ (w1:=?_) (by rfl) rfl ?_ ?_
  rotate_left
  ·go_simp
   rfl
  refine hK.out _ _ ?_
  clear hK K
  refine done_ (done_of HT_.out (by kernel_rfl)) ?_
  try go_wp2
  (try simp only [← hl0_1])
  go_roundg k1
  case measure => have := HK1.out; omega
  case rel => exact ⟨(y342), (wrap64 (x2_1 + 1)), (wrap64 (x3_1 - 1)), (by first | rfl | (simp; done) | (simp [*]; done)), (by first | rfl | (simp; done) | (simp [*]; done)), H', ⟨by have := HK1.out; omega⟩, ⟨by (try simp only [hl0_1]); exact uR HQ12.out⟩, ⟨by repeat (first | (with_reducible first | exact HK.out | apply Kept.alloc | apply Kept.drewN | apply Kept.drew | refine Kept.setCell ?_ HMgo8.out _ | refine Kept.setCell ?_ HMgo8.out _) | exact HK.out)⟩, ⟨by exact uT HB.out⟩⟩
 ·rw [if_neg c3] at H
  have c3b0 : decide (x2_1 < x3_1) = false := decide_eq_false c3
  (try (have c3b0l := c3b0; simp only [hl0_1] at c3b0l))
  clear c3
  obtain rfl := zOi H
  go_wp2
  first | go_end0 | ((try simp only [Exit.inBlock, Exit.then]); refine bodyPost_ret (results_none rfl _ _ _) rfl ?_)
  exact ⟨by first | rfl | (simp [errW_none, errW_some] <;> rfl) | (simp [*, errW_none, errW_some] <;> rfl), (by first | exact (uR HO_0.out) | (simp only [hl0_1]; exact (uR HO_0.out))), by exact uT HB.out, by repeat (first | (with_reducible first | exact HK.out | apply Kept.alloc | apply Kept.drewN | apply Kept.drew) | exact HK.out)⟩



def strings_Join.f (l0 : List ByteArray) (a1 : ByteArray) : Option ByteArray := match l0 with
  | [] => some ⟨#[]⟩
  | [s] => some s
  | _ => none
theorem strings_Join.calls (A0 : Option Addr) (c0 : Nat) (l0 : List ByteArray) (a1 : ByteArray) (r : ByteArray) (w : World) (hr0 : Kd.C Kd.string w A0 l0.length l0) (hc0 : l0.length ≤ c0) (h : strings_Join.f l0 a1 = some r) :
    Calls Tryd.prog 76 #[.slice A0 l0.length c0, .string a1] w fun e w' => e = .returned (.string r) ∧ Drawn0 w w' := by
  match l0, hr0, hc0, h with
  | [], hr0, hc0, h =>
    obtain rfl := zOi h
    clear hr0 hc0 h
    go_enter Tryd.func76, Tryd.ntmps76
    (try simp only [zLn])
    go_wp2
    go_ret
    exact ⟨rfl, ⟨0, rfl⟩⟩
  | [s], hr0, hc0, h =>
    obtain rfl := zOi h
    obtain ⟨ad, e, hx⟩ := Kd.at_string hr0 0 (by omega) (by simp)
    subst e
    clear hr0 hc0 h
    have hx : w.cell? (ad.add 0) = some (.string s) := hx
    have hx : w.cell? ad = some (.string s) := by first | simpa using hx | (rw [show ad.add 0 = ad from by cases ad; rfl] at hx; exact hx)
    go_enter Tryd.func76, Tryd.ntmps76
    (try simp only [zLc, zLn, Nat.zero_add])
    go_wp2
    go_ret
    exact ⟨rfl, ⟨0, rfl⟩⟩
  | _ :: _ :: _, _, _, h => cases h



def strings_Repeat.f (a0 : ByteArray) (a1 : Int) : Option ByteArray := none
theorem strings_Repeat.calls (a0 : ByteArray) (a1 : Int) (r : ByteArray) (w : World) (h : strings_Repeat.f a0 a1 = some r) :
    Calls Tryd.prog 77 #[.string a0, .int .i64 a1] w fun e w' => e = .returned (.string r) ∧ Drawn0 w w' := by cases h


def n_Text.l0 : Nat → List Int → List ByteArray → Option (ByteArray)
 | 0, _, _ => none
 | k + 1, x0, x3 => (n_small.f x0 1000000000).bind fun bt349 => ((strconv_Itoa_74.f (wrap64 (bt349.2))).bind fun t353 => (if (bt349.1.length : Int) = 0 then (if x3.length < 8796093022208 then ((slices_Reverse_string_string.f k (x3 ++ [t353])).bind fun t357 => ((strings_Join.f t357 (⟨#[]⟩ : ByteArray)).bind fun t358 => (some t358))) else (none)) else ((strings_Repeat.f (⟨#[48]⟩ : ByteArray) (wrap64 (9 - (t353.size : Int)))).bind fun t359 => (if t359.size + t353.size ≤ 9223372036854775807 then (if x3.length < 8796093022208 then (n_Text.l0 k bt349.1 (x3 ++ [t359 ++ t353])) else (none)) else (none)))))
def n_Text.f (k : Nat) (l0 : List Int) : Option (ByteArray) := (n_cut.f l0).bind fun t346 => (n_Text.l0 k t346 ([] : List ByteArray))
theorem n_Text.calls (k : Nat) (A0 : Option Addr) (c0 : Nat) (l0 : List Int) (r : ByteArray) (w : World) (hr0 : Kd.C (Kd.int .u32) w A0 l0.length l0) (hc0 : l0.length ≤ c0) (h : n_Text.f k l0 = some r) :
  Calls Tryd.prog 54 #[.slice A0 l0.length c0] w fun e w' => e = .returned (.string r) ∧ Below w.heap.size w w' := by
 have HR0 := zMk hr0
 have HC0 := zMk hc0
 clear hr0 hc0
 have HB := zMk (Below.refl w.heap.size w)
 have H : ((n_cut.f l0).bind fun t346 => (n_Text.l0 k t346 ([] : List ByteArray))) = some r := h
 clear h
 replace H := bnd H
 obtain ⟨t346, A20, H⟩ := H
 have A2 := zMk A20
 clear A20
 have H' := zMk H
 clear H
 go_enter Tryd.func54, Tryd.ntmps54
 go_wp2_with (first | ((with_reducible refine gate_callee (f:=56) rfl ?_); refine goesL_ (some 8) rfl rfl Tryd.func56 (by kernel_rfl) rfl #[.slice A0 l0.length c0] rfl (by (try simp only [zMa, zMc, zMn]); first |  done|  rfl|  (simp only [zLd, zLt]; rfl)) ?_; (with_reducible refine (n_cut.calls (fun k_ => k_ < w.heap.size) _ _ l0 t346 _ ?side1 A2.out).mono ?_); (case side1 => exact Kd.V_mk HC0.out (Kd.F_below (Kd.C_F (Kd.heap_int .u32) HR0.out) (uT HB.out))); rintro e w3 ⟨v347, rfl, ho0, hb⟩; refine ⟨_, rfl, ?_⟩; have HO348 := zMk (zVl (zVm (ok' := fun k_ => True) ho0 (fun k_ hk_ => trivial)) (zBs (uT HB.out))); replace HB := zMk (zBt (uT HB.out) hb)))
 go_loopg [0, 3] k (fun kq v0 v3 w' => ∃ (x0_1 : List Int) (x3_1 : List ByteArray), Aside0 (n_Text.l0 kq x0_1 x3_1 = some r) ∧ Aside0 (kq ≤ k) ∧ Aside0 (Kd.V (Kd.int .u32) 58 w' w.heap.size (fun k_ => some k_ ≠ (v3 : Value).ownBlock) v0 x0_1) ∧ Aside0 (Kd.R Kd.string 9 w' w.heap.size (fun _ => True) v3 x3_1) ∧ Aside0 (Below w.heap.size w w'))
 case atStart => exact ⟨(t346), (([] : List ByteArray)), H', ⟨Nat.le_refl _⟩, ⟨by (with_reducible repeat (first | apply zVa | apply zVn | apply zVd)); exact zVm HO348.out (fun _ hk => (by simp [Value.ownBlock]))⟩, ⟨by first | exact Kd.R_nil _ _ _ _ _ | exact Kd.N_nil _ _ _ _ _ | exact Kd.V_nil _ _ _ _ _ | exact Kd.Q_nil _ _ _ _ _ | exact Kd.S_nil _ _ _ _ _⟩, ⟨by exact uT HB.out⟩⟩
 clear H'
 obtain ⟨x0_1, x3_1, HA, HK1, HO_0, HO_3, HB⟩ := hrel
 rcases gk with _ | k1
 ·exact absurd HA.out (by simp [n_Text.l0])
 have H := HA.out
 clear HA
 simp only [n_Text.l0] at H
 replace H := bnd H
 obtain ⟨⟨t349, t352⟩, A40, H⟩ := H
 replace H : ((strconv_Itoa_74.f (wrap64 (t352))).bind fun t353 => (if (t349.length : Int) = 0 then (if x3_1.length < 8796093022208 then ((slices_Reverse_string_string.f k1 (x3_1 ++ [t353])).bind fun t357 => ((strings_Join.f t357 (⟨#[]⟩ : ByteArray)).bind fun t358 => (some t358))) else (none)) else ((strings_Repeat.f (⟨#[48]⟩ : ByteArray) (wrap64 (9 - (t353.size : Int)))).bind fun t359 => (if t359.size + t353.size ≤ 9223372036854775807 then (if x3_1.length < 8796093022208 then (n_Text.l0 k1 t349 (x3_1 ++ [t359 ++ t353])) else (none)) else (none))))) = some r := H
 have A4 := zMk A40
 clear A40
 replace H := bnd H
 obtain ⟨t353, A50, H⟩ := H
 have hrw_ : t353.size ≤ 9223372036854775807 → wrap64 (9 - (t353.size : Int)) = 9 - (t353.size : Int) := fun h_ => (by unfold wrap64; omega)
 replace H : (if (t349.length : Int) = 0 then (if x3_1.length < 8796093022208 then ((slices_Reverse_string_string.f k1 (x3_1 ++ [t353])).bind fun t357 => ((strings_Join.f t357 (⟨#[]⟩ : ByteArray)).bind fun t358 => (some t358))) else (none)) else ((strings_Repeat.f (⟨#[48]⟩ : ByteArray) (wrap64 (9 - (t353.size : Int)))).bind fun t359 => (if t359.size + t353.size ≤ 9223372036854775807 then (if x3_1.length < 8796093022208 then (n_Text.l0 k1 t349 (x3_1 ++ [t359 ++ t353])) else (none)) else (none)))) = some r := H
 have A5 := zMk A50
 clear A50
 by_cases c6 : (t349.length : Int) = 0
 ·rw [if_pos c6] at H
  have c6b0 : ((t349.length : Int) == 0) = true := beq_iff_eq.mpr c6
  have c6b1 : ((t349.length : Int) != 0) = false := bne_eq_false_iff_eq.mpr c6
  clear c6
  by_cases c7 : x3_1.length < 8796093022208
  rotate_left
  ·rw [if_neg c7] at H; exact absurd H (by simp)
  rw [if_pos c7] at H
  have LMc7 := zMk c7
  clear c7
  obtain ⟨y354, hy354⟩ : ∃ y_ : List ByteArray, y_ = (x3_1 ++ [t353]) := ⟨_, rfl⟩
  replace H : ((slices_Reverse_string_string.f k1 y354).bind fun t357 => ((strings_Join.f t357 (⟨#[]⟩ : ByteArray)).bind fun t358 => (some t358))) = some r := by first | (rw [hy354]; with_reducible exact H) | (have H2_ := bsm H; first | (rw [hy354]; with_reducible exact H2_) | with_reducible exact H2_) | with_reducible exact H | (rw [hy354]; exact H) | exact H
  have Ny354 := zMk hy354
  clear hy354
  replace H := bnd H
  obtain ⟨t357, A80, H⟩ := H
  have A8 := zMk A80
  clear A80
  replace H := bnd H
  obtain ⟨t358, A90, H⟩ := H
  have A9 := zMk A90
  clear A90
  obtain rfl := zOi H
  obtain ⟨Ao10, co10, eo10⟩ := zVs HO_0.out
  subst eo10
  go_wp2_with (first | ((with_reducible refine gate_callee (f:=58) rfl ?_); refine goesL_ (some 11) rfl rfl Tryd.func58 (by kernel_rfl) rfl #[.slice Ao10 x0_1.length co10, .int .u32 1000000000] rfl (by (try simp only [zMa, zMc, zMn]); first |  done|  rfl|  (simp only [zLd, zLt]; rfl)) ?_; (with_reducible refine (n_small.calls _ _ x0_1 1000000000 t349 t352 _ ?side1 ?side2 A4.out).mono ?_); (case side1 => exact uC (zVr HO_0.out).2.2); (case side2 => exact (zVr HO_0.out).2.1); rintro e w11 ⟨v350, rfl, ho0, hb⟩; refine ⟨_, rfl, ?_⟩; replace HO_0 := zMk (zVb (by exact uV HO_0.out) hb); have HO351 := zMk (zVl (zVm (ok' := fun k_ => some k_ ≠ (u3 : Value).ownBlock) ho0 (fun k_ hk_ => (Kd.fresh' (zRt (by exact uR HO_3.out)) k_ hk_))) (zBs (by exact uT HB.out))); replace HO_3 := zMk (zRb (by exact uR HO_3.out) hb); replace HB := zMk (zBt (by exact uT HB.out) hb))|((with_reducible refine gate_callee (f:=74) rfl ?_); refine goesL_ (some 16) rfl rfl Tryd.func74 (by kernel_rfl) rfl #[.int .i64 (wrap64 (t352))] rfl (by (try simp only [zMa, zMc, zMn]); first |  done|  rfl|  (simp only [zLd, zLt]; rfl)) ?_; (with_reducible refine (strconv_Itoa_74.calls (wrap64 (t352)) t353 _ A5.out).mono ?_); rintro e w' ⟨rfl, ⟨nd, rfl⟩⟩; refine ⟨_, rfl, ?_⟩; obtain ⟨Ao12, co12, eo12⟩ := zVs HO351.out; subst eo12)|((with_reducible refine gate_builtin (b:=.append) (xs:=#[.tmp 20, .tmp 22]) rfl ?_); at_builtin; refine Kd.R_append Kd.string (w0:=w) w.heap.size rfl (.tmp 20) (.tmp 22) 78 9 (.string ⟨#[]⟩) 16 rfl Tryd.underlying78 info9 rfl (by decide) (by omega) u3 x3_1 t353 [.string t353] (fun _ => True) (fun _ => False) rfl rfl ?aP (fun _ hk => hk.elim) ?aF ?aO ?aB ?aS ?aL ?_; (case aP => exact rfl); (case aB => exact (by exact uT HB.out)); (case aF => exact (fun _ _ => trivial)); (case aO => exact (by exact uR HO_3.out)); (case aS => exact (zBs (by exact uT HB.out))); (case aL => have := LMc7.out; omega); intro v355 w13 ho hb hg hat; rw [← Ny354.out] at ho; replace HO_0 := zMk (Kd.V_afterv (ok:=(fun _ => True)) (by (with_reducible repeat (first |  apply zVa|  apply zVn|  apply zVd)); exact zVm HO_0.out (fun _ hk => ⟨trivial, hk⟩)) hg hat); replace HO351 := zMk (Kd.V_afterv (ok:=(fun _ => True)) (by (with_reducible repeat (first |  apply zVa|  apply zVn|  apply zVd)); exact zVm HO351.out (fun _ hk => ⟨trivial, hk⟩)) hg hat); replace HB := zMk (hb); have HO356 := zMk (ho); clear HO_3 ho hb hg hat; obtain ⟨Ao14, co14, eo14⟩ := zRs HO356.out; subst eo14)|((with_reducible refine gate_callee (f:=75) rfl ?_); refine goesL_ (some 25) rfl rfl Tryd.func75 (by kernel_rfl) rfl #[.slice Ao14 y354.length co14] rfl (by (try simp only [zMa, zMc, zMn]); first |  done|  rfl|  (simp only [zLd, zLt]; rfl)) ?_; (with_reducible refine (slices_Reverse_string_string.calls k1 (fun k_ => some k_ = (.slice Ao14 y354.length co14 : Value).ownBlock) (.slice Ao14 y354.length co14) y354 t357 w _ ?side1 ?side2 A8.out).mono ?_); (case side1 => exact uT HB.out); (case side2 => exact Kd.R_tight rfl HO356.out); rintro e w15 ⟨rfl, hy0, hb, hkp⟩; refine ⟨_, rfl, ?_⟩; replace HO_0 := zMk (zVm (ok' := fun k_ => some k_ ≠ (.slice Ao14 y354.length co14 : Value).ownBlock) (Kd.V_keptB (HO_0.out) hkp (fun k_ hk_ hs_ => (hk_.2) hs_)) (fun k_ hk_ => hk_.1.2)); replace HO351 := zMk (zVm (ok' := fun k_ => some k_ ≠ (.slice Ao14 y354.length co14 : Value).ownBlock) (Kd.V_keptB (HO351.out) hkp (fun k_ hk_ hs_ => (hk_.2) hs_)) (fun k_ hk_ => hk_.1.2)); replace HO356 := zMk (Kd.R_reok rfl hy0 (fun k_ e_ => HO356.out.1 k_ e_)); replace HB := zMk (hb))|((with_reducible refine gate_callee (f:=76) rfl ?_); refine goesL_ (some 27) rfl rfl Tryd.func76 (by kernel_rfl) rfl #[.slice Ao14 t357.length co14, .string (⟨#[]⟩ : ByteArray)] rfl (by (try simp only [zMa, zMc, zMn]); first |  done|  (rw [show t357.length = y354.length from (zRr HO356.out).1.symm] <;> rfl)|  rfl|  (simp only [zLd, zLt]; rfl)) ?_; (with_reducible refine (strings_Join.calls _ _ t357 (⟨#[]⟩ : ByteArray) t358 _ ?side1 ?side2 A9.out).mono ?_); (case side1 => exact uC (zRr HO356.out).2.2); (case side2 => rw [show t357.length = y354.length from (zRr HO356.out).1.symm]; exact (zRr HO356.out).2.1); rintro e w' ⟨rfl, ⟨nd, rfl⟩⟩; refine ⟨_, rfl, ?_⟩))
  go_ret
  exact ⟨by first | rfl | (simp [errW_none, errW_some] <;> rfl) | (simp [*, errW_none, errW_some] <;> rfl), by exact uT HB.out⟩
 ·rw [if_neg c6] at H
  have c6b0 : ((t349.length : Int) == 0) = false := beq_eq_false_iff_ne.mpr c6
  have c6b1 : ((t349.length : Int) != 0) = true := bne_iff_ne.mpr c6
  have c6b2 : ¬ (t349 = []) := fun h_ => c6 (by rw [h_]; rfl)
  replace H := bnd H
  obtain ⟨t359, A160, H⟩ := H
  have A16 := zMk A160
  clear A160
  by_cases c17 : t359.size + t353.size ≤ 9223372036854775807
  ·rw [if_pos c17] at H
   have c17b0 := eq_true c17
   have c17b1 : decide (t359.size + t353.size ≤ 9223372036854775807) = true := decide_eq_true c17
   try have c17b2 : (9223372036854775807 < t359.size + t353.size) = False := eq_false (Nat.not_lt.2 c17)
   by_cases c18 : x3_1.length < 8796093022208
   rotate_left
   ·rw [if_neg c18] at H; exact absurd H (by simp)
   rw [if_pos c18] at H
   have LMc18 := zMk c18
   clear c18
   obtain ⟨y360, hy360⟩ : ∃ y_ : List ByteArray, y_ = (x3_1 ++ [t359 ++ t353]) := ⟨_, rfl⟩
   replace H : (n_Text.l0 k1 t349 y360) = some r := by first | (rw [hy360]; with_reducible exact H) | (have H2_ := bsm H; first | (rw [hy360]; with_reducible exact H2_) | with_reducible exact H2_) | with_reducible exact H | (rw [hy360]; exact H) | exact H
   have Ny360 := zMk hy360
   clear hy360
   have H' := zMk H
   clear H
   obtain ⟨Ao19, co19, eo19⟩ := zVs HO_0.out
   subst eo19
   go_wp2_with (first | ((with_reducible refine gate_callee (f:=58) rfl ?_); refine goesL_ (some 11) rfl rfl Tryd.func58 (by kernel_rfl) rfl #[.slice Ao19 x0_1.length co19, .int .u32 1000000000] rfl (by (try simp only [zMa, zMc, zMn]); first |  done|  rfl|  (simp only [zLd, zLt]; rfl)) ?_; (with_reducible refine (n_small.calls _ _ x0_1 1000000000 t349 t352 _ ?side1 ?side2 A4.out).mono ?_); (case side1 => exact uC (zVr HO_0.out).2.2); (case side2 => exact (zVr HO_0.out).2.1); rintro e w20 ⟨v350, rfl, ho0, hb⟩; refine ⟨_, rfl, ?_⟩; replace HO_0 := zMk (zVb (by exact uV HO_0.out) hb); have HO351 := zMk (zVl (zVm (ok' := fun k_ => some k_ ≠ (u3 : Value).ownBlock) ho0 (fun k_ hk_ => (Kd.fresh' (zRt (by exact uR HO_3.out)) k_ hk_))) (zBs (by exact uT HB.out))); replace HO_3 := zMk (zRb (by exact uR HO_3.out) hb); replace HB := zMk (zBt (by exact uT HB.out) hb))|((with_reducible refine gate_callee (f:=74) rfl ?_); refine goesL_ (some 16) rfl rfl Tryd.func74 (by kernel_rfl) rfl #[.int .i64 (wrap64 (t352))] rfl (by (try simp only [zMa, zMc, zMn]); first |  done|  rfl|  (simp only [zLd, zLt]; rfl)) ?_; (with_reducible refine (strconv_Itoa_74.calls (wrap64 (t352)) t353 _ A5.out).mono ?_); rintro e w' ⟨rfl, ⟨nd, rfl⟩⟩; refine ⟨_, rfl, ?_⟩; obtain ⟨Ao21, co21, eo21⟩ := zVs HO351.out; subst eo21)|((with_reducible refine gate_callee (f:=77) rfl ?_); refine goesL_ (some 32) rfl rfl Tryd.func77 (by kernel_rfl) rfl #[.string (⟨#[48]⟩ : ByteArray), .int .i64 (9 - (t353.size : Int))] rfl (by (try simp only [zMa, zMc, zMn]); first |  done|  rfl|  (simp only [zLd, zLt]; rfl)) ?_; (with_reducible refine (strings_Repeat.calls (⟨#[48]⟩ : ByteArray) (9 - (t353.size : Int)) t359 _ (by rw [← hrw_ (by omega)]; exact A16.out)).mono ?_); rintro e w' ⟨rfl, ⟨nd, rfl⟩⟩; refine ⟨_, rfl, ?_⟩)|((with_reducible refine gate_builtin (b:=.append) (xs:=#[.tmp 28, .tmp 35]) rfl ?_); at_builtin; refine Kd.R_append Kd.string (w0:=w) w.heap.size rfl (.tmp 28) (.tmp 35) 78 9 (.string ⟨#[]⟩) 16 rfl Tryd.underlying78 info9 rfl (by decide) (by omega) u3 x3_1 (t359 ++ t353) [.string (t359 ++ t353)] (fun _ => True) (fun _ => False) rfl rfl ?aP (fun _ hk => hk.elim) ?aF ?aO ?aB ?aS ?aL ?_; (case aP => exact rfl); (case aB => exact (by exact uT HB.out)); (case aF => exact (fun _ _ => trivial)); (case aO => exact (by exact uR HO_3.out)); (case aS => exact (zBs (by exact uT HB.out))); (case aL => have := LMc18.out; omega); intro v361 w22 ho hb hg hat; rw [← Ny360.out] at ho; replace HO_0 := zMk (Kd.V_afterv (ok:=(fun _ => True)) (by (with_reducible repeat (first |  apply zVa|  apply zVn|  apply zVd)); exact zVm HO_0.out (fun _ hk => ⟨trivial, hk⟩)) hg hat); replace HO351 := zMk (Kd.V_afterv (ok:=(fun _ => True)) (by (with_reducible repeat (first |  apply zVa|  apply zVn|  apply zVd)); exact zVm HO351.out (fun _ hk => ⟨trivial, hk⟩)) hg hat); replace HB := zMk (hb); have HO362 := zMk (ho); clear HO_3 ho hb hg hat))
   go_roundg k1
   case measure => have := HK1.out; omega
   case rel => exact ⟨(t349), (y360), H', ⟨by have := HK1.out; omega⟩, ⟨by (with_reducible repeat (first | apply zVa | apply zVn | apply zVd)); exact zVm HO351.out (fun _ hk => hk.2)⟩, ⟨by exact uR HO362.out⟩, ⟨by exact uT HB.out⟩⟩
  ·rw [if_neg c17] at H
   exact absurd H (by simp)


def integer_Text.f (k : Nat) (a0_0 : Bool) (l0_1 : List Int) : Option (ByteArray) := (integer_Norm.f a0_0 l0_1).bind fun bt364 => (if bt364.1 = true then ((n_Text.f k l0_1).bind fun t368 => (if 1 + t368.size ≤ 9223372036854775807 then (some ((⟨#[45]⟩ : ByteArray) ++ t368)) else (none))) else ((n_Text.f k l0_1).bind fun t369 => (if 0 + t369.size ≤ 9223372036854775807 then (some ((⟨#[]⟩ : ByteArray) ++ t369)) else (none))))
theorem integer_Text.calls (k : Nat) (a0_0 : Bool) (A0_1 : Option Addr) (c0_1 : Nat) (l0_1 : List Int) (r : ByteArray) (w : World) (hr0_1 : Kd.C (Kd.int .u32) w A0_1 l0_1.length l0_1) (hc0_1 : l0_1.length ≤ c0_1) (h : integer_Text.f k a0_0 l0_1 = some r) :
  Calls Tryd.prog 29 #[.agg #[.bool a0_0, .slice A0_1 l0_1.length c0_1]] w fun e w' => e = .returned (.string r) ∧ Below w.heap.size w w' := by
 have hu24 := Tryd.underlying24
 have hfd24_0 : ∀ (w_ : World) (b0_ : Bool) (A1_ : Option Addr) (n1_ c1_ : Nat), (Instr.field 24 (.agg #[.bool b0_, .slice A1_ n1_ c1_]) 0).run Tryd.prog w_ = .ok (.bool b0_) w_ := by intros; kernel_rfl
 have HR0_1 := zMk hr0_1
 have HC0_1 := zMk hc0_1
 clear hr0_1 hc0_1
 have HB := zMk (Below.refl w.heap.size w)
 have H : ((integer_Norm.f a0_0 l0_1).bind fun bt364 => (if bt364.1 = true then ((n_Text.f k l0_1).bind fun t368 => (if 1 + t368.size ≤ 9223372036854775807 then (some ((⟨#[45]⟩ : ByteArray) ++ t368)) else (none))) else ((n_Text.f k l0_1).bind fun t369 => (if 0 + t369.size ≤ 9223372036854775807 then (some ((⟨#[]⟩ : ByteArray) ++ t369)) else (none))))) = some r := h
 clear h
 replace H := bnd H
 obtain ⟨⟨t364, t365⟩, A20, H⟩ := H
 replace H : (if t364 = true then ((n_Text.f k l0_1).bind fun t368 => (if 1 + t368.size ≤ 9223372036854775807 then (some ((⟨#[45]⟩ : ByteArray) ++ t368)) else (none))) else ((n_Text.f k l0_1).bind fun t369 => (if 0 + t369.size ≤ 9223372036854775807 then (some ((⟨#[]⟩ : ByteArray) ++ t369)) else (none)))) = some r := H
 have A2 := zMk A20
 clear A20
 by_cases c3 : t364 = true
 ·subst c3
  replace H : ((n_Text.f k l0_1).bind fun t368 => (if 1 + t368.size ≤ 9223372036854775807 then (some ((⟨#[45]⟩ : ByteArray) ++ t368)) else (none))) = some r := by rw [if_pos rfl] at H; exact H
  replace H := bnd H
  obtain ⟨t368, A40, H⟩ := H
  have A4 := zMk A40
  clear A40
  by_cases c5 : 1 + t368.size ≤ 9223372036854775807
  rotate_left
  ·rw [if_neg c5] at H; exact absurd H (by simp)
  rw [if_pos c5] at H
  have c5b0 := eq_true c5
  have c5b1 : decide (1 + t368.size ≤ 9223372036854775807) = true := decide_eq_true c5
  try have c5b2 : (9223372036854775807 < 1 + t368.size) = False := eq_false (Nat.not_lt.2 c5)
  obtain rfl := zOi H
  go_enter Tryd.func29, Tryd.ntmps29
  go_wp2_with (first | ((with_reducible refine gate_dst (N:=1) rfl ?_); refine box_event ?hg (N:=1) ?hd (cs:=#[.bool a0_0, .slice A0_1 l0_1.length c0_1]) (t:=24) ?hr ?_; (case hd => rfl); (case hg => rfl); (case hr => first | (go_simp; done)|(go_simp; rfl)|(go_simp; rw [show ∀ x : Int, IntKind.u32.wrap (IntKind.u8.wrap x) = x % 256 from fun x => (by show (x % 256) % 4294967296 = x % 256; omega)])); intro gb363 hg w6 hbox hb; have BK363 := zMk (hbox); have GW363 := zMk ((by rw [hg]; exact (zBs (uT HB.out)) : w.heap.size ≤ gb363)); have GE363 := zMk ((by rw [hg]; exact (zBs (uT HB.out)) : w.heap.size ≤ gb363)); have IGE363 := ownGe GE363.out; replace HB := zMk (zBt (uT HB.out) hb); clear hb hbox hg; have hcz7_0 : w6.cell? ⟨gb363, 0, none⟩ = some (.bool a0_0) := (zKc BK363.out 0).trans rfl; have hcz7_1 : w6.cell? ⟨gb363, 1, none⟩ = some (.slice A0_1 l0_1.length c0_1) := (zKc BK363.out 1).trans rfl; have hfz7_0 := zKf BK363.out 0; have hfz7_1 := zKf BK363.out 1)|((with_reducible refine gate_callee (f:=47) rfl ?_); refine goesL_ (some 5) rfl rfl Tryd.func47 (by kernel_rfl) rfl #[.agg #[.bool a0_0, .slice A0_1 l0_1.length c0_1]] rfl (by (try simp only [zMa, zMc, zMn]); first |  done|  rfl|  (simp only [zLd, zLt]; rfl)) ?_; (with_reducible refine (integer_Norm.calls a0_0 _ _ l0_1 true t365 _ ?side1 ?side2 A2.out).mono ?_); (case side1 => repeat (first |  exact (Kd.C_below HR0_1.out HB.out)|(with_reducible refine zCa ?_ _)|(with_reducible refine zCn ?_ _)|(with_reducible refine zCd ?_))); (case side2 => exact HC0_1.out); rintro e w8 ⟨v366, rfl, ho0, hb⟩; refine ⟨_, rfl, ?_⟩; have HO367 := zMk (zRl ho0 (zBs (uT HB.out))); replace BK363 := zMk (zKb BK363.out hb); replace HB := zMk (zBt (uT HB.out) hb); obtain ⟨Ao9, co9, eo9⟩ := zRs HO367.out; subst eo9; have hcz10_0 : w8.cell? ⟨gb363, 0, none⟩ = some (.bool a0_0) := (zKc BK363.out 0).trans rfl; have hcz10_1 : w8.cell? ⟨gb363, 1, none⟩ = some (.slice A0_1 l0_1.length c0_1) := (zKc BK363.out 1).trans rfl; have hfz10_0 := zKf BK363.out 0; have hfz10_1 := zKf BK363.out 1)|((with_reducible refine gate_callee (f:=54) rfl ?_); refine goesL_ (some 10) rfl rfl Tryd.func54 (by kernel_rfl) rfl #[.slice A0_1 l0_1.length c0_1] rfl (by (try simp only [zMa, zMc, zMn]); first |  done|  rfl|  (simp only [zLd, zLt]; rfl)) ?_; (with_reducible refine (n_Text.calls k _ _ l0_1 t368 _ ?side1 ?side2 A4.out).mono ?_); (case side1 => repeat (first |  exact (Kd.C_below HR0_1.out HB.out)|(with_reducible refine zCa ?_ _)|(with_reducible refine zCn ?_ _)|(with_reducible refine zCd ?_))); (case side2 => exact HC0_1.out); rintro e w11 ⟨rfl, hb⟩; refine ⟨_, rfl, ?_⟩; replace HO367 := zMk (zRb (uR HO367.out) hb); replace BK363 := zMk (zKb BK363.out hb); replace HB := zMk (zBt (uT HB.out) hb)))
  go_ret
  exact ⟨by first | rfl | (simp [errW_none, errW_some] <;> rfl) | (simp [*, errW_none, errW_some] <;> rfl), by exact uT HB.out⟩
 ·replace c3 := Bool.eq_false_iff.mpr c3
  subst c3
  replace H : ((n_Text.f k l0_1).bind fun t369 => (if 0 + t369.size ≤ 9223372036854775807 then (some ((⟨#[]⟩ : ByteArray) ++ t369)) else (none))) = some r := by rw [if_neg (show ¬ (false = true) by decide)] at H; exact H
  replace H := bnd H
  obtain ⟨t369, A120, H⟩ := H
  have A12 := zMk A120
  clear A120
  by_cases c13 : 0 + t369.size ≤ 9223372036854775807
  ·rw [if_pos c13] at H
   have c13b0 := eq_true c13
   have c13b1 : decide (0 + t369.size ≤ 9223372036854775807) = true := decide_eq_true c13
   try have c13b2 : (9223372036854775807 < 0 + t369.size) = False := eq_false (Nat.not_lt.2 c13)
   obtain rfl := zOi H
   go_enter Tryd.func29, Tryd.ntmps29
   go_wp2_with (first | ((with_reducible refine gate_dst (N:=1) rfl ?_); refine box_event ?hg (N:=1) ?hd (cs:=#[.bool a0_0, .slice A0_1 l0_1.length c0_1]) (t:=24) ?hr ?_; (case hd => rfl); (case hg => rfl); (case hr => first | (go_simp; done)|(go_simp; rfl)|(go_simp; rw [show ∀ x : Int, IntKind.u32.wrap (IntKind.u8.wrap x) = x % 256 from fun x => (by show (x % 256) % 4294967296 = x % 256; omega)])); intro gb363 hg w14 hbox hb; have BK363 := zMk (hbox); have GW363 := zMk ((by rw [hg]; exact (zBs (uT HB.out)) : w.heap.size ≤ gb363)); have GE363 := zMk ((by rw [hg]; exact (zBs (uT HB.out)) : w.heap.size ≤ gb363)); have IGE363 := ownGe GE363.out; replace HB := zMk (zBt (uT HB.out) hb); clear hb hbox hg; have hcz15_0 : w14.cell? ⟨gb363, 0, none⟩ = some (.bool a0_0) := (zKc BK363.out 0).trans rfl; have hcz15_1 : w14.cell? ⟨gb363, 1, none⟩ = some (.slice A0_1 l0_1.length c0_1) := (zKc BK363.out 1).trans rfl; have hfz15_0 := zKf BK363.out 0; have hfz15_1 := zKf BK363.out 1)|((with_reducible refine gate_callee (f:=47) rfl ?_); refine goesL_ (some 5) rfl rfl Tryd.func47 (by kernel_rfl) rfl #[.agg #[.bool a0_0, .slice A0_1 l0_1.length c0_1]] rfl (by (try simp only [zMa, zMc, zMn]); first |  done|  rfl|  (simp only [zLd, zLt]; rfl)) ?_; (with_reducible refine (integer_Norm.calls a0_0 _ _ l0_1 false t365 _ ?side1 ?side2 A2.out).mono ?_); (case side1 => repeat (first |  exact (Kd.C_below HR0_1.out HB.out)|(with_reducible refine zCa ?_ _)|(with_reducible refine zCn ?_ _)|(with_reducible refine zCd ?_))); (case side2 => exact HC0_1.out); rintro e w16 ⟨v366, rfl, ho0, hb⟩; refine ⟨_, rfl, ?_⟩; have HO367 := zMk (zRl ho0 (zBs (uT HB.out))); replace BK363 := zMk (zKb BK363.out hb); replace HB := zMk (zBt (uT HB.out) hb); obtain ⟨Ao17, co17, eo17⟩ := zRs HO367.out; subst eo17; have hcz18_0 : w16.cell? ⟨gb363, 0, none⟩ = some (.bool a0_0) := (zKc BK363.out 0).trans rfl; have hcz18_1 : w16.cell? ⟨gb363, 1, none⟩ = some (.slice A0_1 l0_1.length c0_1) := (zKc BK363.out 1).trans rfl; have hfz18_0 := zKf BK363.out 0; have hfz18_1 := zKf BK363.out 1)|((with_reducible refine gate_callee (f:=54) rfl ?_); refine goesL_ (some 10) rfl rfl Tryd.func54 (by kernel_rfl) rfl #[.slice A0_1 l0_1.length c0_1] rfl (by (try simp only [zMa, zMc, zMn]); first |  done|  rfl|  (simp only [zLd, zLt]; rfl)) ?_; (with_reducible refine (n_Text.calls k _ _ l0_1 t369 _ ?side1 ?side2 A12.out).mono ?_); (case side1 => repeat (first |  exact (Kd.C_below HR0_1.out HB.out)|(with_reducible refine zCa ?_ _)|(with_reducible refine zCn ?_ _)|(with_reducible refine zCd ?_))); (case side2 => exact HC0_1.out); rintro e w19 ⟨rfl, hb⟩; refine ⟨_, rfl, ?_⟩; replace HO367 := zMk (zRb (uR HO367.out) hb); replace BK363 := zMk (zKb BK363.out hb); replace HB := zMk (zBt (uT HB.out) hb)))
   go_ret
   exact ⟨by first | rfl | (simp [errW_none, errW_some] <;> rfl) | (simp [*, errW_none, errW_some] <;> rfl), by exact uT HB.out⟩
  ·rw [if_neg c13] at H
   exact absurd H (by simp)


def integer_Of.f (a0 : Int) : Option (Bool × List Int) := if a0 < 0 then ((n_Of.f (IntKind.u64.wrap (-(IntKind.u64.wrap (a0))))).bind fun t371 => ((integer_signed.f true t371).bind fun bt374 => (some (bt374.1, bt374.2)))) else ((n_Of.f (IntKind.u64.wrap (a0))).bind fun t378 => ((integer_signed.f false t378).bind fun bt381 => (some (bt381.1, bt381.2))))
theorem integer_Of.calls (a0 : Int) (r1 : Bool) (r2 : List Int) (w : World) (h : integer_Of.f a0 = some (r1, r2)) :
  Calls Tryd.prog 31 #[.int .i64 a0] w fun e w' => ∃ v1_ : Value, e = .returned (.agg #[.bool r1, v1_]) ∧ Kd.R (Kd.int .u32) 58 w' w.heap.size (fun _ => True) v1_ r2 ∧ Below w.heap.size w w' := by
 have hu24 := Tryd.underlying24
 have HB := zMk (Below.refl w.heap.size w)
 have H : (if a0 < 0 then ((n_Of.f (IntKind.u64.wrap (-(IntKind.u64.wrap (a0))))).bind fun t371 => ((integer_signed.f true t371).bind fun bt374 => (some (bt374.1, bt374.2)))) else ((n_Of.f (IntKind.u64.wrap (a0))).bind fun t378 => ((integer_signed.f false t378).bind fun bt381 => (some (bt381.1, bt381.2))))) = some (r1, r2) := h
 clear h
 by_cases c2 : a0 < 0
 ·rw [if_pos c2] at H
  have c2b0 : decide (a0 < 0) = true := decide_eq_true c2
  clear c2
  replace H := bnd H
  obtain ⟨t371, A30, H⟩ := H
  have A3 := zMk A30
  clear A30
  replace H := bnd H
  obtain ⟨⟨t374, t375⟩, A40, H⟩ := H
  replace H : (some (t374, t375)) = some (r1, r2) := H
  have A4 := zMk A40
  clear A40
  simp only [Option.some.injEq, Prod.mk.injEq] at H
  obtain ⟨rfl, rfl⟩ := H
  go_enter Tryd.func31, Tryd.ntmps31
  go_wp2_with (first | ((with_reducible refine gate_dst (N:=2) rfl ?_); refine box_event ?hg (N:=2) ?hd (cs:=#[.bool false, .slice none 0 0]) (t:=24) ?hr ?_; (case hd => rfl); (case hg => rfl); (case hr => first | (go_simp; done)|(go_simp; rfl)|(go_simp; rw [show ∀ x : Int, IntKind.u32.wrap (IntKind.u8.wrap x) = x % 256 from fun x => (by show (x % 256) % 4294967296 = x % 256; omega)])); intro gb370 hg w5 hbox hb; have BK370 := zMk (hbox); have GW370 := zMk ((by rw [hg]; exact (zBs (uT HB.out)) : w.heap.size ≤ gb370)); have GE370 := zMk ((by rw [hg]; exact (zBs (uT HB.out)) : w.heap.size ≤ gb370)); have IGE370 := ownGe GE370.out; replace HB := zMk (zBt (uT HB.out) hb); clear hb hbox hg)|((with_reducible refine gate_callee (f:=34) rfl ?_); refine goesL_ (some 8) rfl rfl Tryd.func34 (by kernel_rfl) rfl #[.int .u64 (IntKind.u64.wrap (-(IntKind.u64.wrap (a0))))] rfl (by (try simp only [zMa, zMc, zMn]); first |  done|  rfl|  (simp only [zLd, zLt]; rfl)) ?_; (with_reducible refine (n_Of.calls (IntKind.u64.wrap (-(IntKind.u64.wrap (a0)))) t371 _ A3.out).mono ?_); rintro e w6 ⟨v372, rfl, ho0, hb⟩; refine ⟨_, rfl, ?_⟩; have HO373 := zMk (zVl (zVm (ok' := fun k_ => k_ ≠ gb370) ho0 (fun k_ hk_ => (Kd.freshB (g:=gb370) (o:=.cells #[.bool false, .slice none 0 0] 24 (0, 0)) BK370.out k_ hk_))) (zBs (uT HB.out))); replace BK370 := zMk (zKb BK370.out hb); replace HB := zMk (zBt (uT HB.out) hb); obtain ⟨Ao7, co7, eo7⟩ := zVs HO373.out; subst eo7)|((with_reducible refine gate_callee (f:=36) rfl ?_); refine goesL_ (some 9) rfl rfl Tryd.func36 (by kernel_rfl) rfl #[.bool true, .slice Ao7 t371.length co7] rfl (by (try simp only [zMa, zMc, zMn]); first |  done|  rfl|  (simp only [zLd, zLt]; rfl)) ?_; (with_reducible refine (integer_signed.calls true _ _ t371 t374 t375 _ ?side1 ?side2 A4.out).mono ?_); (case side1 => exact uC (zVr HO373.out).2.2); (case side2 => exact (zVr HO373.out).2.1); rintro e w8 ⟨v376, rfl, ho0, hb⟩; refine ⟨_, rfl, ?_⟩; replace HO373 := zMk (zVe (uV HO373.out) (zRz ho0) hb); have HO377 := zMk (zRl ho0 (zBs (uT HB.out))); replace BK370 := zMk (zKb BK370.out hb); replace HB := zMk (zBt (uT HB.out) hb); have hcz9_0 : w8.cell? ⟨gb370, 0, none⟩ = some (.bool false) := (zKc BK370.out 0).trans rfl; have hcz9_1 : w8.cell? ⟨gb370, 1, none⟩ = some (.slice none 0 0) := (zKc BK370.out 1).trans rfl; have hfz9_0 := zKf BK370.out 0; have hfz9_1 := zKf BK370.out 1; obtain ⟨Ao10, co10, eo10⟩ := zRs HO377.out; subst eo10))
  refine bodyPost_ret (results_cell_row rfl _ _ gb370 24 #[.bool t374, .slice Ao10 t375.length co10] (0, 0) _ rfl (by (with_reducible repeat (first | refine zKn ?_ _ | refine zKd ?_ | refine zKa ?_ _)); refine blk_put (cs:=#[.bool t374, .slice none 0 0]) ?_ 1 _ rfl; (with_reducible repeat (first | refine zKn ?_ _ | refine zKd ?_ | refine zKa ?_ _)); refine blk_put (cs:=#[.bool false, .slice none 0 0]) ?_ 0 _ rfl; (with_reducible repeat (first | refine zKn ?_ _ | refine zKd ?_ | refine zKa ?_ _)); exact BK370.out) Tryd.underlying24 rfl (by kernel_rfl)) rfl ?_
  exact ⟨_, by first | rfl | (simp [errW_none, errW_some] <;> rfl) | (simp [*, errW_none, errW_some] <;> rfl), by (with_reducible repeat (first | apply zRa | apply zRn | apply zRd)); exact zRm (Kd.R_far (p:=⟨gb370, 1, none⟩) (Kd.R_far (p:=⟨gb370, 0, none⟩) (Kd.R_types HO377.out BK370.out (by decide)) (fun _ hk => hk.2) (.bool t374)) (fun _ hk => hk.2) (.slice Ao10 t375.length co10)) (fun _ hk => trivial), by exact uT HB.out⟩
 ·rw [if_neg c2] at H
  have c2b0 : decide (a0 < 0) = false := decide_eq_false c2
  clear c2
  replace H := bnd H
  obtain ⟨t378, A110, H⟩ := H
  have A11 := zMk A110
  clear A110
  replace H := bnd H
  obtain ⟨⟨t381, t382⟩, A120, H⟩ := H
  replace H : (some (t381, t382)) = some (r1, r2) := H
  have A12 := zMk A120
  clear A120
  simp only [Option.some.injEq, Prod.mk.injEq] at H
  obtain ⟨rfl, rfl⟩ := H
  go_enter Tryd.func31, Tryd.ntmps31
  go_wp2_with (first | ((with_reducible refine gate_dst (N:=2) rfl ?_); refine box_event ?hg (N:=2) ?hd (cs:=#[.bool false, .slice none 0 0]) (t:=24) ?hr ?_; (case hd => rfl); (case hg => rfl); (case hr => first | (go_simp; done)|(go_simp; rfl)|(go_simp; rw [show ∀ x : Int, IntKind.u32.wrap (IntKind.u8.wrap x) = x % 256 from fun x => (by show (x % 256) % 4294967296 = x % 256; omega)])); intro gb370 hg w13 hbox hb; have BK370 := zMk (hbox); have GW370 := zMk ((by rw [hg]; exact (zBs (uT HB.out)) : w.heap.size ≤ gb370)); have GE370 := zMk ((by rw [hg]; exact (zBs (uT HB.out)) : w.heap.size ≤ gb370)); have IGE370 := ownGe GE370.out; replace HB := zMk (zBt (uT HB.out) hb); clear hb hbox hg)|((with_reducible refine gate_callee (f:=34) rfl ?_); refine goesL_ (some 12) rfl rfl Tryd.func34 (by kernel_rfl) rfl #[.int .u64 (IntKind.u64.wrap (a0))] rfl (by (try simp only [zMa, zMc, zMn]); first |  done|  rfl|  (simp only [zLd, zLt]; rfl)) ?_; (with_reducible refine (n_Of.calls (IntKind.u64.wrap (a0)) t378 _ A11.out).mono ?_); rintro e w14 ⟨v379, rfl, ho0, hb⟩; refine ⟨_, rfl, ?_⟩; have HO380 := zMk (zVl (zVm (ok' := fun k_ => k_ ≠ gb370) ho0 (fun k_ hk_ => (Kd.freshB (g:=gb370) (o:=.cells #[.bool false, .slice none 0 0] 24 (0, 0)) BK370.out k_ hk_))) (zBs (uT HB.out))); replace BK370 := zMk (zKb BK370.out hb); replace HB := zMk (zBt (uT HB.out) hb); obtain ⟨Ao15, co15, eo15⟩ := zVs HO380.out; subst eo15)|((with_reducible refine gate_callee (f:=36) rfl ?_); refine goesL_ (some 13) rfl rfl Tryd.func36 (by kernel_rfl) rfl #[.bool false, .slice Ao15 t378.length co15] rfl (by (try simp only [zMa, zMc, zMn]); first |  done|  rfl|  (simp only [zLd, zLt]; rfl)) ?_; (with_reducible refine (integer_signed.calls false _ _ t378 t381 t382 _ ?side1 ?side2 A12.out).mono ?_); (case side1 => exact uC (zVr HO380.out).2.2); (case side2 => exact (zVr HO380.out).2.1); rintro e w16 ⟨v383, rfl, ho0, hb⟩; refine ⟨_, rfl, ?_⟩; replace HO380 := zMk (zVe (uV HO380.out) (zRz ho0) hb); have HO384 := zMk (zRl ho0 (zBs (uT HB.out))); replace BK370 := zMk (zKb BK370.out hb); replace HB := zMk (zBt (uT HB.out) hb); have hcz17_0 : w16.cell? ⟨gb370, 0, none⟩ = some (.bool false) := (zKc BK370.out 0).trans rfl; have hcz17_1 : w16.cell? ⟨gb370, 1, none⟩ = some (.slice none 0 0) := (zKc BK370.out 1).trans rfl; have hfz17_0 := zKf BK370.out 0; have hfz17_1 := zKf BK370.out 1; obtain ⟨Ao18, co18, eo18⟩ := zRs HO384.out; subst eo18))
  refine bodyPost_ret (results_cell_row rfl _ _ gb370 24 #[.bool t381, .slice Ao18 t382.length co18] (0, 0) _ rfl (by (with_reducible repeat (first | refine zKn ?_ _ | refine zKd ?_ | refine zKa ?_ _)); refine blk_put (cs:=#[.bool t381, .slice none 0 0]) ?_ 1 _ rfl; (with_reducible repeat (first | refine zKn ?_ _ | refine zKd ?_ | refine zKa ?_ _)); refine blk_put (cs:=#[.bool false, .slice none 0 0]) ?_ 0 _ rfl; (with_reducible repeat (first | refine zKn ?_ _ | refine zKd ?_ | refine zKa ?_ _)); exact BK370.out) Tryd.underlying24 rfl (by kernel_rfl)) rfl ?_
  exact ⟨_, by first | rfl | (simp [errW_none, errW_some] <;> rfl) | (simp [*, errW_none, errW_some] <;> rfl), by (with_reducible repeat (first | apply zRa | apply zRn | apply zRd)); exact zRm (Kd.R_far (p:=⟨gb370, 1, none⟩) (Kd.R_far (p:=⟨gb370, 0, none⟩) (Kd.R_types HO384.out BK370.out (by decide)) (fun _ hk => hk.2) (.bool t381)) (fun _ hk => hk.2) (.slice Ao18 t382.length co18)) (fun _ hk => trivial), by exact uT HB.out⟩

end Go.Proofs.YtnjmnicgknggfaaDoor.D
