/- Lemmas for the statement: the walks of the functions that it reaches, and plain laws. -/
import Derived.Test.YtnjmnicgknggfaaDoorEm1
import Derived.Test.YtnjmnicgknggfaaDoorEm2
set_option linter.unusedVariables false
set_option linter.unusedSimpArgs false
namespace Go.Proofs.YtnjmnicgknggfaaDoor.E
open Go Go.RowKit Go.Proofs.YtnjmnicgknggfaaDoorW.PrintWords Go.Proofs.YtnjmnicgknggfaaDoorW.PrintLast Go.Proofs.YtnjmnicgknggfaaDoorW.PrintMore
attribute [local go_sem] max2_int min2_int max_two min_two max_three min_three max_four min_four
open Go.Proofs.YtnjmnicgknggfaaDoorW.PrintWords.Kd renaming R_alloc → zRa, R_drewN → zRn, R_drew → zRd, V_alloc → zVa, V_drewN → zVn, V_drew → zVd, V_below → zVb, C_alloc → zCa, C_drewN → zCn, C_drew → zCd, R_mono → zRm, V_mono → zVm, at_int → zAi, R_elder' → zRe, R_lower → zRl, R_new' → zRw, R_lt → zRt, R_below → zRb, R_base → zRz, R_reads' → zRr, R_slice → zRs, V_elder' → zVe, V_lower → zVl, V_slice → zVs, V_reads' → zVr
open Go.Proofs.YtnjmnicgknggfaaDoorW.PrintWords renaming pw_below_drewN → zBn, below_alloc → zBa, below_drew1 → zBd, below_size → zBs, below_step → zBt, blk_drewN → zKn, blk_drew → zKd, blk_alloc → zKa, blk_below → zKb, blk_cell → zKc, blk_frozen → zKf
open List renaming setIfInBounds_toArray → zSa, set_cons_zero → zSb, set_cons_succ → zSc, length_drop → zLd, length_take → zLt, map_toArray → zMa, map_cons → zMc, map_nil → zMn, length_cons → zLc, length_nil → zLn
open Go.Proofs.YtnjmnicgknggfaaDoorW.PrintWords.Aside0 renaming mk → zMk
open Option renaming bind_eq_some_iff → zBi, bind_some → zOb
open Option.some renaming inj → zOi
open Int renaming toNat_natCast → zTn

def filigreeref02_make2.f (k : Nat) (a0 : Bool) (l1 : List Int) : Option (Bool × List Int) := (r1_Norm.f k l1).bind fun t441 => (if a0 = true then (some (decide ((t441.length : Int) > 0), t441)) else (some (false, t441)))
set_option maxHeartbeats 8000000 in
set_option maxRecDepth 100000 in
theorem filigreeref02_make2.calls (k : Nat) (a0 : Bool) (A1 : Option Addr) (c1 : Nat) (l1 : List Int) (r1 : Bool) (r2 : List Int) (w : World) (hr1 : Kd.C (Kd.int .u32) w A1 l1.length l1) (hc1 : l1.length ≤ c1) (h : filigreeref02_make2.f k a0 l1 = some (r1, r2)) :
    Calls Tryd.prog 38 #[.bool a0, .slice A1 l1.length c1] w fun e w' => ∃ v1_ : Value, e = .returned (.agg #[.bool r1, v1_]) ∧ Kd.R (Kd.int .u32) 58 w' w.heap.size (fun _ => True) v1_ r2 ∧ Below w.heap.size w w' := by
  have hu24 := Tryd.underlying24
  have HR1 := zMk hr1
  have HC1 := zMk hc1
  clear hr1 hc1
  have HB := zMk (Below.refl w.heap.size w)
  have H : ((r1_Norm.f k l1).bind fun t441 => (if a0 = true then (some (decide ((t441.length : Int) > 0), t441)) else (some (false, t441)))) = some (r1, r2) := h
  clear h
  replace H := bnd H
  obtain ⟨t441, A30, H⟩ := H
  have A3 := zMk A30
  clear A30
  by_cases c4 : a0 = true
  · subst c4
    have H1 : (some (decide ((t441.length : Int) > 0), t441)) = some (r1, r2) := by rw [if_pos rfl] at H; exact H
    clear H
    have H := H1
    clear H1
    simp only [Option.some.injEq, Prod.mk.injEq] at H
    obtain ⟨rfl, rfl⟩ := H
    have hdl_ : decide ((t441.length : Int) > 0) = decide (0 < t441.length) := decide_eq_decide.2 (by omega)
    rw [hdl_]
    go_enter Tryd.func38, Tryd.ntmps38
    go_wp2_with (first |  ((with_reducible refine gate_dst (N := 4) rfl ?_); (try (refine gate_guard (by rfl) ?_; dsimp only)); refine box_event ?hg (N := 4) ?hd (cs := #[.bool false, .slice none 0 0]) (t := 24) ?hr ?_; (case hd => rfl); (case hg => rfl); (case hr => first |  (go_simp; done)|  (go_simp; rfl)|  (go_simp; rw [show ∀ x : Int, IntKind.u32.wrap (IntKind.u8.wrap x) = x % 256 from fun x => (by show (x % 256) % 4294967296 = x % 256; omega)])); intro gb440 hg w5 hbox hb; have BK440 := zMk (hbox); have GW440 := zMk ((by rw [hg]; exact (zBs (by exact uT HB.out)) : w.heap.size ≤ gb440)); have GE440 := zMk ((by rw [hg]; exact (zBs (by exact uT HB.out)) : w.heap.size ≤ gb440)); have IGE440 := ownGe GE440.out; replace HB := zMk (zBt (by exact uT HB.out) hb); clear hb hbox hg)|  ((with_reducible refine gate_callee (f := 63) rfl ?_); refine goesL_ (some 7) rfl rfl Tryd.func63 (by kernel_rfl) rfl #[.slice A1 l1.length c1] rfl (by (try simp only [zMa, zMc, zMn]); first |  done|  rfl|  (simp only [zLd, zLt]; rfl)) ?_; (with_reducible refine (r1_Norm.calls k _ _ l1 t441 _ ?side1 ?side2 A3.out).mono ?_); (case side1 => repeat (first |  exact (Kd.C_below HR1.out HB.out)|  (with_reducible refine zCa ?_ _)|  (with_reducible refine zCn ?_ _)|  (with_reducible refine zCd ?_))); (case side2 => exact HC1.out); rintro e w6 ⟨v442, rfl, ho0, hb⟩; refine ⟨_, rfl, ?_⟩; have HO443 := zMk (zRl ho0 (zBs (by exact uT HB.out))); replace BK440 := zMk (zKb (g := gb440) (o := .cells #[.bool false, .slice none 0 0] 24 (0, 0)) (by (with_reducible repeat (first |  refine zKn ?_ _|  refine zKd ?_|  refine zKa ?_ _)); exact BK440.out) hb); replace HB := zMk (zBt (by exact uT HB.out) hb); (try clear hb); (try clear hb2); (try clear hk); (try clear hi); (try clear ho0); obtain ⟨Ao7, co7, eo7⟩ := zRs HO443.out; subst eo7; have hcz8_0 : w6.cell? ⟨gb440, 0, none⟩ = some (.bool false) := (zKc BK440.out 0).trans rfl; have hcz8_1 : w6.cell? ⟨gb440, 1, none⟩ = some (.slice none 0 0) := (zKc BK440.out 1).trans rfl; have hfz8_0 := zKf BK440.out 0; have hfz8_1 := zKf BK440.out 1))
    refine bodyPost_ret (results_cell_row rfl _ _ gb440 24 #[.bool (decide (0 < t441.length)), .slice Ao7 t441.length co7] (0, 0) _ rfl (by (with_reducible repeat (first | refine zKn ?_ _ | refine zKd ?_ | refine zKa ?_ _)); refine blk_put (cs := #[.bool (decide (0 < t441.length)), .slice none 0 0]) ?_ 1 _ rfl; (with_reducible repeat (first | refine zKn ?_ _ | refine zKd ?_ | refine zKa ?_ _)); refine blk_put (cs := #[.bool false, .slice none 0 0]) ?_ 0 _ rfl; (with_reducible repeat (first | refine zKn ?_ _ | refine zKd ?_ | refine zKa ?_ _)); exact BK440.out) Tryd.underlying24 rfl (by kernel_rfl)) rfl ?_
    exact ⟨_, by first | rfl | (simp [errW_none, errW_some] <;> rfl) | (simp [*, errW_none, errW_some] <;> rfl), by (with_reducible repeat (first | apply zRa | apply zRn | apply zRd)); exact zRm (Kd.R_far (p := ⟨gb440, 1, none⟩) (Kd.R_far (p := ⟨gb440, 0, none⟩) (Kd.R_types HO443.out BK440.out (by decide)) (fun _ hk => hk.2) (.bool (decide (0 < t441.length)))) (fun _ hk => hk.2) (.slice Ao7 t441.length co7)) (fun _ hk => trivial), by exact uT HB.out⟩
  · replace c4 := Bool.eq_false_iff.mpr c4
    subst c4
    have H1 : (some (false, t441)) = some (r1, r2) := by rw [if_neg (show ¬ (false = true) by decide)] at H; exact H
    clear H
    have H := H1
    clear H1
    simp only [Option.some.injEq, Prod.mk.injEq] at H
    obtain ⟨rfl, rfl⟩ := H
    go_enter Tryd.func38, Tryd.ntmps38
    go_wp2_with (first |  ((with_reducible refine gate_dst (N := 4) rfl ?_); (try (refine gate_guard (by rfl) ?_; dsimp only)); refine box_event ?hg (N := 4) ?hd (cs := #[.bool false, .slice none 0 0]) (t := 24) ?hr ?_; (case hd => rfl); (case hg => rfl); (case hr => first |  (go_simp; done)|  (go_simp; rfl)|  (go_simp; rw [show ∀ x : Int, IntKind.u32.wrap (IntKind.u8.wrap x) = x % 256 from fun x => (by show (x % 256) % 4294967296 = x % 256; omega)])); intro gb440 hg w9 hbox hb; have BK440 := zMk (hbox); have GW440 := zMk ((by rw [hg]; exact (zBs (by exact uT HB.out)) : w.heap.size ≤ gb440)); have GE440 := zMk ((by rw [hg]; exact (zBs (by exact uT HB.out)) : w.heap.size ≤ gb440)); have IGE440 := ownGe GE440.out; replace HB := zMk (zBt (by exact uT HB.out) hb); clear hb hbox hg)|  ((with_reducible refine gate_callee (f := 63) rfl ?_); refine goesL_ (some 7) rfl rfl Tryd.func63 (by kernel_rfl) rfl #[.slice A1 l1.length c1] rfl (by (try simp only [zMa, zMc, zMn]); first |  done|  rfl|  (simp only [zLd, zLt]; rfl)) ?_; (with_reducible refine (r1_Norm.calls k _ _ l1 t441 _ ?side1 ?side2 A3.out).mono ?_); (case side1 => repeat (first |  exact (Kd.C_below HR1.out HB.out)|  (with_reducible refine zCa ?_ _)|  (with_reducible refine zCn ?_ _)|  (with_reducible refine zCd ?_))); (case side2 => exact HC1.out); rintro e w10 ⟨v442, rfl, ho0, hb⟩; refine ⟨_, rfl, ?_⟩; have HO443 := zMk (zRl ho0 (zBs (by exact uT HB.out))); replace BK440 := zMk (zKb (g := gb440) (o := .cells #[.bool false, .slice none 0 0] 24 (0, 0)) (by (with_reducible repeat (first |  refine zKn ?_ _|  refine zKd ?_|  refine zKa ?_ _)); exact BK440.out) hb); replace HB := zMk (zBt (by exact uT HB.out) hb); (try clear hb); (try clear hb2); (try clear hk); (try clear hi); (try clear ho0); obtain ⟨Ao11, co11, eo11⟩ := zRs HO443.out; subst eo11; have hcz12_0 : w10.cell? ⟨gb440, 0, none⟩ = some (.bool false) := (zKc BK440.out 0).trans rfl; have hcz12_1 : w10.cell? ⟨gb440, 1, none⟩ = some (.slice none 0 0) := (zKc BK440.out 1).trans rfl; have hfz12_0 := zKf BK440.out 0; have hfz12_1 := zKf BK440.out 1))
    refine bodyPost_ret (results_cell_row rfl _ _ gb440 24 #[.bool false, .slice Ao11 t441.length co11] (0, 0) _ rfl (by (with_reducible repeat (first | refine zKn ?_ _ | refine zKd ?_ | refine zKa ?_ _)); refine blk_put (cs := #[.bool false, .slice none 0 0]) ?_ 1 _ rfl; (with_reducible repeat (first | refine zKn ?_ _ | refine zKd ?_ | refine zKa ?_ _)); refine blk_put (cs := #[.bool false, .slice none 0 0]) ?_ 0 _ rfl; (with_reducible repeat (first | refine zKn ?_ _ | refine zKd ?_ | refine zKa ?_ _)); exact BK440.out) Tryd.underlying24 rfl (by kernel_rfl)) rfl ?_
    exact ⟨_, by first | rfl | (simp [errW_none, errW_some] <;> rfl) | (simp [*, errW_none, errW_some] <;> rfl), by (with_reducible repeat (first | apply zRa | apply zRn | apply zRd)); exact zRm (Kd.R_far (p := ⟨gb440, 1, none⟩) (Kd.R_far (p := ⟨gb440, 0, none⟩) (Kd.R_types HO443.out BK440.out (by decide)) (fun _ hk => hk.2) (.bool false)) (fun _ hk => hk.2) (.slice Ao11 t441.length co11)) (fun _ hk => trivial), by exact uT HB.out⟩


mutual
def r1_bits.l0 : Nat → List Int → List Int → Int → Option (List Int)
  | 0, _, _, _ => none
  | k + 1, x0, x3, x4 => if x4 < (x0.length : Int) then (r1_bits.l1 k x0 x3 x4 0) else (some x3)
def r1_bits.l1 : Nat → List Int → List Int → Int → Int → Option (List Int)
  | 0, _, _, _, _ => none
  | k + 1, x0, x3, x4, x5 => if x5 < 32 then (if 0 ≤ x4 then (if x4 < (x0.length : Int) then (if 0 ≤ (IntKind.u64.wrap (x5)) then (if x3.length < 140737488355328 then (r1_bits.l1 k x0 (x3 ++ [(Go.bits .and .u32 (shr .u32 (rd x0 x4) (IntKind.u64.wrap (x5))) 1) % 256]) x4 (wrap64 (x5 + 1))) else (none)) else (none)) else (none)) else (none)) else (r1_bits.l0 k x0 x3 (wrap64 (x4 + 1)))
end
def r1_bits.f (k : Nat) (l0 : List Int) : Option (List Int) := r1_bits.l0 k l0 ([] : List Int) 0
set_option maxHeartbeats 8000000 in
set_option maxRecDepth 100000 in
theorem r1_bits.calls (k : Nat) (A0 : Option Addr) (c0 : Nat) (l0 : List Int) (r : List Int) (w : World) (hr0 : Kd.C (Kd.int .u32) w A0 l0.length l0) (hc0 : l0.length ≤ c0) (h : r1_bits.f k l0 = some r) :
    Calls Tryd.prog 64 #[.slice A0 l0.length c0] w fun e w' => ∃ v0_ : Value, e = .returned (v0_) ∧ Kd.R (Kd.int .u8) 5 w' w.heap.size (fun _ => True) v0_ r ∧ Below w.heap.size w w' := by
  have HR0 := zMk hr0
  have HC0 := zMk hc0
  clear hr0 hc0
  have HB := zMk (Below.refl w.heap.size w)
  have H : (r1_bits.l0 k l0 ([] : List Int) 0) = some r := h
  clear h
  have H' := zMk H
  clear H
  go_enter Tryd.func64, Tryd.ntmps64
  go_wp2
  go_loopg [3, 4] k (fun kq v3 v4 w' => ∃ (x3_1 : List Int) (x4_1 : Int), v4 = .int .i64 x4_1 ∧ Aside0 (r1_bits.l0 kq l0 x3_1 x4_1 = some r) ∧ Aside0 (kq ≤ k) ∧ Aside0 (Kd.R (Kd.int .u8) 5 w' w.heap.size (fun _ => True) v3 x3_1) ∧ Aside0 (Below w.heap.size w w'))
  case atStart => exact ⟨(([] : List Int)), (0), (by first | rfl | (simp; done) | (simp [*]; done)), H', ⟨Nat.le_refl _⟩, ⟨by first | exact Kd.R_nil _ _ _ _ _ | exact Kd.N_nil _ _ _ _ _ | exact Kd.V_nil _ _ _ _ _ | exact Kd.Q_nil _ _ _ _ _ | exact Kd.S_nil _ _ _ _ _⟩, ⟨by exact uT HB.out⟩⟩
  clear H'
  obtain ⟨x3_1, x4_1, rfl, HA, HK1, HO_3, HB⟩ := hrel
  rcases gk with _ | k1
  · exact absurd HA.out (by simp [r1_bits.l0])
  have H := HA.out
  clear HA
  simp only [r1_bits.l0] at H
  by_cases c2 : x4_1 < (l0.length : Int)
  · rw [if_pos c2] at H
    have c2b0 : decide (x4_1 < (l0.length : Int)) = true := decide_eq_true c2
    clear c2
    have H' := zMk H
    clear H
    go_wp2
    go_loopg [3, 5] k1 (fun kq v3 v5 w' => ∃ (x3_2 : List Int) (x5_2 : Int), v5 = .int .i64 x5_2 ∧ Aside0 (r1_bits.l1 kq l0 x3_2 x4_1 x5_2 = some r) ∧ Aside0 (kq ≤ k1) ∧ Aside0 (Kd.R (Kd.int .u8) 5 w' w.heap.size (fun _ => True) v3 x3_2) ∧ Aside0 (Below w.heap.size w w'))
    case atStart => exact ⟨(x3_1), (0), (by first | rfl | (simp; done) | (simp [*]; done)), H', ⟨Nat.le_refl _⟩, ⟨by exact uR HO_3.out⟩, ⟨by exact uT HB.out⟩⟩
    clear H'
    obtain ⟨x3_2, x5_2, rfl, HA, HK2, HO_3, HB⟩ := hrel
    rcases gk with _ | k2
    · exact absurd HA.out (by simp [r1_bits.l1])
    have H := HA.out
    clear HA
    simp only [r1_bits.l1] at H
    by_cases c3 : x5_2 < 32
    · rw [if_pos c3] at H
      have c3b0 : decide (x5_2 < 32) = true := decide_eq_true c3
      clear c3
      by_cases c4 : 0 ≤ x4_1
      rotate_left
      · rw [if_neg c4] at H; exact absurd H (by simp)
      rw [if_pos c4] at H
      have c4b0 : decide (0 ≤ x4_1) = true := decide_eq_true c4
      clear c4
      by_cases c5 : x4_1 < (l0.length : Int)
      rotate_left
      · rw [if_neg c5] at H; exact absurd H (by simp)
      rw [if_pos c5] at H
      have c5b0 : decide (x4_1 < (l0.length : Int)) = true := decide_eq_true c5
      clear c5
      obtain ⟨ji6, hji6⟩ : ∃ j_ : Int, (IntKind.u64.wrap (x5_2)) = j_ := ⟨_, rfl⟩
      replace H : (if 0 ≤ (ji6) then (if x3_2.length < 140737488355328 then (r1_bits.l1 k2 l0 (x3_2 ++ [(Go.bits .and .u32 (shr .u32 (rd l0 x4_1) (ji6)) 1) % 256]) x4_1 (wrap64 (x5_2 + 1))) else (none)) else (none)) = some r := by first | (rw [hji6] at H; exact H) | (simp only [hji6] at H ⊢; exact H)
      by_cases c7 : 0 ≤ (ji6)
      rotate_left
      · rw [if_neg c7] at H; exact absurd H (by simp)
      rw [if_pos c7] at H
      have c7b0 := eq_true c7
      have c7b1 : decide (0 ≤ (ji6)) = true := decide_eq_true c7
      clear c7
      obtain ⟨ji8, hji8⟩ : ∃ j_ : Int, (shr .u32 (rd l0 x4_1) (ji6)) = j_ := ⟨_, rfl⟩
      replace H : (if x3_2.length < 140737488355328 then (r1_bits.l1 k2 l0 (x3_2 ++ [(Go.bits .and .u32 (ji8) 1) % 256]) x4_1 (wrap64 (x5_2 + 1))) else (none)) = some r := by first | (rw [hji8] at H; exact H) | (simp only [hji8] at H ⊢; exact H)
      have hji8_ : ((rd l0 x4_1) / 2 ^ min (ji6).toNat 32) = ji8 := hji8
      have hji8z : (ji6) ≤ 32 → ((rd l0 x4_1) / 2 ^ (ji6).toNat) = ji8 := shr_small hji8
      by_cases c9 : x3_2.length < 140737488355328
      rotate_left
      · rw [if_neg c9] at H; exact absurd H (by simp)
      rw [if_pos c9] at H
      have LMc9 := zMk c9
      clear c9
      obtain ⟨y591, hy591⟩ : ∃ y_ : List Int, y_ = (x3_2 ++ [(Go.bits .and .u32 (ji8) 1) % 256]) := ⟨_, rfl⟩
      replace H : (r1_bits.l1 k2 l0 y591 x4_1 (wrap64 (x5_2 + 1))) = some r := by first | (rw [hy591]; with_reducible exact H) | (have H2_ := (zOb _ _).symm.trans H; rw [hy591]; with_reducible exact H2_) | (have H2_ := (zOb _ _).symm.trans H; with_reducible exact H2_) | with_reducible exact H | (rw [hy591]; exact H) | exact H
      have Ny591 := zMk hy591
      clear hy591
      have H' := zMk H
      clear H
      have p590 : 0 ≤ (x4_1 : Int) := of_decide_eq_true (by first | (with_reducible assumption) | assumption)
      have q590 : x4_1 < (l0.length : Int) := of_decide_eq_true (by first | (with_reducible assumption) | assumption)
      obtain ⟨ad590, e590, hx590_0⟩ := zAi HR0.out x4_1 p590 q590
      cases e590
      replace hx590_0 := (HB.out.cell (World.block_lt_of_cell? w _ hx590_0)).trans hx590_0
      replace p590 := eq_true p590
      replace q590 := eq_true q590
      go_wp2_with (first |  ((with_reducible refine gate_builtin (b := .append) (xs := #[.tmp 16, .tmp 26]) rfl ?_); at_builtin; refine Kd.R_append (Kd.int .u8) (w0 := w) w.heap.size rfl (.tmp 16) (.tmp 26) 67 5 (.int .u8 0) 1 rfl Tryd.underlying67 info5 rfl (by decide) (by omega) u3 x3_2 ((Go.bits .and .u32 (ji8) 1) % 256) [.int .u8 ((Go.bits .and .u32 (ji8) 1) % 256)] (fun _ => True) (fun _ => False) rfl rfl ?aP (fun _ hk => hk.elim) ?aF ?aO ?aB ?aS ?aL ?_; (case aP => exact rfl); (case aB => exact (by exact uT HB.out)); (case aF => exact (fun _ _ => trivial)); (case aO => exact (by exact uR HO_3.out)); (case aS => exact (zBs (by exact uT HB.out))); (case aL => have := LMc9.out; omega); intro v592 w10 ho hb hg hat; rw [← Ny591.out] at ho; replace HB := zMk (hb); have HO593 := zMk (ho); clear HO_3 ho hb hg hat))
      go_roundg k2
      case measure => have := HK1.out; have := HK2.out; omega
      case rel => exact ⟨(y591), (wrap64 (x5_2 + 1)), (by first | rfl | (simp; done) | (simp [*]; done)), H', ⟨by have := HK1.out; have := HK2.out; omega⟩, ⟨by exact uR HO593.out⟩, ⟨by exact uT HB.out⟩⟩
    · rw [if_neg c3] at H
      have c3b0 : decide (x5_2 < 32) = false := decide_eq_false c3
      clear c3
      have H' := zMk H
      clear H
      go_wp2
      go_roundg k2
      case measure => have := HK1.out; have := HK2.out; omega
      case rel => exact ⟨(x3_2), (wrap64 (x4_1 + 1)), (by first | rfl | (simp; done) | (simp [*]; done)), H', ⟨by have := HK1.out; have := HK2.out; omega⟩, ⟨by exact uR HO_3.out⟩, ⟨by exact uT HB.out⟩⟩
  · rw [if_neg c2] at H
    have c2b0 : decide (x4_1 < (l0.length : Int)) = false := decide_eq_false c2
    clear c2
    obtain rfl := zOi H
    go_wp2
    go_ret
    exact ⟨_, by first | rfl | (simp [errW_none, errW_some] <;> rfl) | (simp [*, errW_none, errW_some] <;> rfl), by exact uR HO_3.out, by exact uT HB.out⟩


def r1_limbs.l0 : Nat → List Int → List Int → Int → Option (List Int)
  | 0, _, _, _ => none
  | k + 1, x0, x3, x4 => if x4 < (x0.length : Int) then (if 0 ≤ (wrap64 (Int.tdiv x4 32)) then (if (wrap64 (Int.tdiv x4 32)) < (x3.length : Int) then (if 0 ≤ x4 then (if 0 ≤ (IntKind.u64.wrap (Int.tmod x4 32)) then (r1_limbs.l0 k x0 (x3.set ((wrap64 (Int.tdiv x4 32)) : Int).toNat (Go.bits .or .u32 (rd x3 (wrap64 (Int.tdiv x4 32))) (shl .u32 ((rd x0 x4) % 4294967296) (IntKind.u64.wrap (Int.tmod x4 32))))) (wrap64 (x4 + 1))) else (none)) else (none)) else (none)) else (none)) else ((r1_Norm.f k x3).bind fun t600 => (some t600))
def r1_limbs.f (k : Nat) (l0 : List Int) : Option (List Int) := if 0 ≤ (wrap64 (Int.tdiv (wrap64 ((l0.length : Int) + 31)) 32)) then (if (wrap64 (Int.tdiv (wrap64 ((l0.length : Int) + 31)) 32) : Int).toNat ≤ 70368744177664 then (r1_limbs.l0 k l0 (List.replicate (wrap64 (Int.tdiv (wrap64 ((l0.length : Int) + 31)) 32) : Int).toNat 0) 0) else (none)) else (none)
def r1_limbs.T5 : Bool × List (List Nat × List Nat) := (true, [([], []), ([], []), ([1], [1]), ([], []), ([], []), ([4], [4]), ([3, 5], [3, 5]), ([6], [6]), ([], []), ([], []), ([8, 9], [8, 9]), ([10], [10]), ([11], [11]), ([], []), ([13], [13]), ([14], [14]), ([12, 15], [12, 15]), ([7, 16], [7, 16]), ([0, 2, 0, 1, 2, 3, 4, 5, 6, 7, 8, 9, 10, 11, 12, 13, 14, 15, 16, 17], [0, 2]), ([18, 17, 0, 1, 2, 3, 4, 5, 6, 7, 8, 9, 10, 11, 12, 13, 14, 15, 16, 17], [17, 18])])
def r1_limbs.B5 : List Nat := [0, 0, 2, 0, 0, 16, 56, 120, 0, 0, 768, 1792, 3840, 0, 8192, 24576, 65280, 131064, 262143, 524287]
theorem r1_limbs.tab5 : rtab .any (opsOf Tryd.f65 5) = r1_limbs.T5 := by kernel_rfl
theorem r1_limbs.bits5 : waitsOk r1_limbs.T5.2 r1_limbs.B5 = true := by kernel_rfl
set_option maxHeartbeats 8000000 in
set_option maxRecDepth 100000 in
theorem r1_limbs.calls (k : Nat) (A0 : Option Addr) (c0 : Nat) (l0 : List Int) (r : List Int) (w : World) (hr0 : Kd.C (Kd.int .u8) w A0 l0.length l0) (hc0 : l0.length ≤ c0) (h : r1_limbs.f k l0 = some r) :
    Calls Tryd.prog 65 #[.slice A0 l0.length c0] w fun e w' => ∃ v0_ : Value, e = .returned (v0_) ∧ Kd.R (Kd.int .u32) 58 w' w.heap.size (fun _ => True) v0_ r ∧ Below w.heap.size w w' := by
  have HR0 := zMk hr0
  have HC0 := zMk hc0
  clear hr0 hc0
  have HB := zMk (Below.refl w.heap.size w)
  have H : (if 0 ≤ (wrap64 (Int.tdiv (wrap64 ((l0.length : Int) + 31)) 32)) then (if (wrap64 (Int.tdiv (wrap64 ((l0.length : Int) + 31)) 32) : Int).toNat ≤ 70368744177664 then (r1_limbs.l0 k l0 (List.replicate (wrap64 (Int.tdiv (wrap64 ((l0.length : Int) + 31)) 32) : Int).toNat 0) 0) else (none)) else (none)) = some r := h
  clear h
  obtain ⟨ji2, hji2⟩ : ∃ j_ : Int, (wrap64 (Int.tdiv (wrap64 ((l0.length : Int) + 31)) 32)) = j_ := ⟨_, rfl⟩
  replace H : (if 0 ≤ (ji2) then (if (ji2 : Int).toNat ≤ 70368744177664 then (r1_limbs.l0 k l0 (List.replicate (ji2 : Int).toNat 0) 0) else (none)) else (none)) = some r := by first | (rw [hji2] at H; exact H) | (simp only [hji2] at H ⊢; exact H)
  have hji2w : (IntKind.i64.wrap (Int.tdiv (wrap64 ((l0.length : Int) + 31)) 32)) = ji2 := (i64_w _).trans hji2
  by_cases c3 : 0 ≤ (ji2)
  · rw [if_pos c3] at H
    have c3b0 := eq_true c3
    have c3b1 : decide (0 ≤ (ji2)) = true := decide_eq_true c3
    clear c3
    by_cases c4 : (ji2 : Int).toNat ≤ 70368744177664
    rotate_left
    · rw [if_neg c4] at H; exact absurd H (by simp)
    rw [if_pos c4] at H
    have c4b0 := eq_true c4
    have c4b1 : decide ((ji2 : Int).toNat ≤ 70368744177664) = true := decide_eq_true c4
    clear c4
    obtain ⟨y594, hy594⟩ : ∃ y_ : List Int, y_ = (List.replicate (ji2 : Int).toNat 0) := ⟨_, rfl⟩
    replace H : (r1_limbs.l0 k l0 y594 0) = some r := by first | (rw [hy594]; with_reducible exact H) | (have H2_ := (zOb _ _).symm.trans H; rw [hy594]; with_reducible exact H2_) | (have H2_ := (zOb _ _).symm.trans H; with_reducible exact H2_) | with_reducible exact H | (rw [hy594]; exact H) | exact H
    have Ny594 := zMk hy594
    clear hy594
    have H' := zMk H
    clear H
    go_enter Tryd.func65, Tryd.ntmps65
    go_wp2_with (first |  ((with_reducible refine gate_dst (N := 9) rfl ?_); refine Kd.R_make (Kd.int .u32) _ 58 rfl (N := 9) rfl 22 _ _ rfl ji2 rfl rfl Tryd.underlying22 (.int .u32 0) 4 info58 rfl (by decide) (by omega) 0 (ok := fun _ => True) (okp := fun _ => True) rfl (fun _ hk => hk) trivial (of_decide_eq_true (by first |  (with_reducible assumption)|  assumption)) (Nat.le_trans (Nat.mul_le_mul_right _ (of_decide_eq_true (by first |  (with_reducible assumption)|  assumption) : ji2.toNat ≤ 70368744177664)) (by omega)) (Below.refl _ _) (Nat.le_refl _) ?_; intro v595 w5 ho6 hb hg_ hnew_; clear hg_ hnew_; (first |  rw [← Ny594.out] at ho6|  (simp only [Int.reduceToNat] at ho6; rw [← Ny594.out] at ho6)); have HO596 := zMk (zRl ho6 (zBs (by exact uT HB.out))); replace HB := zMk (zBt (by exact uT HB.out) hb); clear hb ho6))
    go_loopg [4] k (fun kq v4 w' => ∃ (x3_1 : List Int) (x4_1 : Int), v4 = .int .i64 x4_1 ∧ Aside0 (r1_limbs.l0 kq l0 x3_1 x4_1 = some r) ∧ Aside0 (kq ≤ k) ∧ Aside0 (Kd.R (Kd.int .u32) 58 w' w.heap.size (fun _ => True) v595 x3_1) ∧ Aside0 (Below w.heap.size w w'))
    case atStart => exact ⟨(y594), (0), (by first | rfl | (simp; done) | (simp [*]; done)), H', ⟨Nat.le_refl _⟩, ⟨by exact uR HO596.out⟩, ⟨by exact uT HB.out⟩⟩
    clear H'
    obtain ⟨x3_1, x4_1, rfl, HA, HK1, HO_3, HB⟩ := hrel
    rcases gk with _ | k1
    · exact absurd HA.out (by simp [r1_limbs.l0])
    have H := HA.out
    clear HA
    simp only [r1_limbs.l0] at H
    by_cases c7 : x4_1 < (l0.length : Int)
    · rw [if_pos c7] at H
      have c7b0 : decide (x4_1 < (l0.length : Int)) = true := decide_eq_true c7
      clear c7
      obtain ⟨ji8, hji8⟩ : ∃ j_ : Int, (wrap64 (Int.tdiv x4_1 32)) = j_ := ⟨_, rfl⟩
      replace H : (if 0 ≤ (ji8) then (if (ji8) < (x3_1.length : Int) then (if 0 ≤ x4_1 then (if 0 ≤ (IntKind.u64.wrap (Int.tmod x4_1 32)) then (r1_limbs.l0 k1 l0 (x3_1.set ((ji8) : Int).toNat (Go.bits .or .u32 (rd x3_1 (ji8)) (shl .u32 ((rd l0 x4_1) % 4294967296) (IntKind.u64.wrap (Int.tmod x4_1 32))))) (wrap64 (x4_1 + 1))) else (none)) else (none)) else (none)) else (none)) = some r := by first | (rw [hji8] at H; exact H) | (simp only [hji8] at H ⊢; exact H)
      have hji8w : (IntKind.i64.wrap (Int.tdiv x4_1 32)) = ji8 := (i64_w _).trans hji8
      by_cases c9 : 0 ≤ (ji8)
      rotate_left
      · rw [if_neg c9] at H; exact absurd H (by simp)
      rw [if_pos c9] at H
      have c9b0 : decide (0 ≤ (ji8)) = true := decide_eq_true c9
      clear c9
      by_cases c10 : (ji8) < (x3_1.length : Int)
      rotate_left
      · rw [if_neg c10] at H; exact absurd H (by simp)
      rw [if_pos c10] at H
      have c10b0 : decide ((ji8) < (x3_1.length : Int)) = true := decide_eq_true c10
      clear c10
      by_cases c11 : 0 ≤ x4_1
      rotate_left
      · rw [if_neg c11] at H; exact absurd H (by simp)
      rw [if_pos c11] at H
      have c11b0 : decide (0 ≤ x4_1) = true := decide_eq_true c11
      clear c11
      obtain ⟨ji12, hji12⟩ : ∃ j_ : Int, (IntKind.u64.wrap (Int.tmod x4_1 32)) = j_ := ⟨_, rfl⟩
      replace H : (if 0 ≤ (ji12) then (r1_limbs.l0 k1 l0 (x3_1.set ((ji8) : Int).toNat (Go.bits .or .u32 (rd x3_1 (ji8)) (shl .u32 ((rd l0 x4_1) % 4294967296) (ji12)))) (wrap64 (x4_1 + 1))) else (none)) = some r := by first | (rw [hji12] at H; exact H) | (simp only [hji12] at H ⊢; exact H)
      by_cases c13 : 0 ≤ (ji12)
      rotate_left
      · rw [if_neg c13] at H; exact absurd H (by simp)
      rw [if_pos c13] at H
      have c13b0 := eq_true c13
      have c13b1 : decide (0 ≤ (ji12)) = true := decide_eq_true c13
      clear c13
      obtain ⟨ji14, hji14⟩ : ∃ j_ : Int, (shl .u32 ((rd l0 x4_1) % 4294967296) (ji12)) = j_ := ⟨_, rfl⟩
      replace H : (r1_limbs.l0 k1 l0 (x3_1.set ((ji8) : Int).toNat (Go.bits .or .u32 (rd x3_1 (ji8)) (ji14))) (wrap64 (x4_1 + 1))) = some r := by first | (rw [hji14] at H; exact H) | (simp only [hji14] at H ⊢; exact H)
      have hji14_ : (IntKind.u32.wrap (((rd l0 x4_1) % 4294967296) * 2 ^ min (ji12).toNat 32)) = ji14 := hji14
      have hji14m : ((((rd l0 x4_1) % 4294967296) * 2 ^ min (ji12).toNat 32) % 4294967296) = ji14 := hji14_
      have hji14z : (ji12) ≤ 32 → (IntKind.u32.wrap (((rd l0 x4_1) % 4294967296) * 2 ^ (ji12).toNat)) = ji14 := shl_small hji14
      obtain ⟨y599, hy599⟩ : ∃ y_ : List Int, y_ = (x3_1.set ((ji8) : Int).toNat (Go.bits .or .u32 (rd x3_1 (ji8)) (ji14))) := ⟨_, rfl⟩
      replace H : (r1_limbs.l0 k1 l0 y599 (wrap64 (x4_1 + 1))) = some r := by first | (rw [hy599]; with_reducible exact H) | (have H2_ := (zOb _ _).symm.trans H; rw [hy599]; with_reducible exact H2_) | (have H2_ := (zOb _ _).symm.trans H; with_reducible exact H2_) | with_reducible exact H | (rw [hy599]; exact H) | exact H
      have Ny599 := zMk hy599
      clear hy599
      have H' := zMk H
      clear H
      try go_wp2
      replace HO_3 := zMk (zRd HO_3.out)
      replace HB := zMk (zBd HB.out)
      obtain ⟨Ao17, co17, eo17⟩ := zRs HO_3.out
      (first |  subst eo17|  (injection eo17 with f1_ f2_ f3_; have f4_ := f1_.symm; have f5_ := f3_.symm; clear f1_ f2_ f3_; subst f4_; subst f5_))
      have p597 : 0 ≤ ((ji8) : Int) := of_decide_eq_true (by first | (with_reducible assumption) | assumption)
      have q597 : (ji8) < (x3_1.length : Int) := of_decide_eq_true (by first | (with_reducible assumption) | assumption)
      obtain ⟨ad597, e597, hx597_0⟩ := zAi (zRr HO_3.out).2.2 (ji8) p597 q597
      cases e597
      replace p597 := eq_true p597
      replace q597 := eq_true q597
      have p598 : 0 ≤ (x4_1 : Int) := of_decide_eq_true (by first | (with_reducible assumption) | assumption)
      have q598 : x4_1 < (l0.length : Int) := of_decide_eq_true (by first | (with_reducible assumption) | assumption)
      obtain ⟨ad598, e598, hx598_0⟩ := zAi HR0.out x4_1 p598 q598
      have hw598_0 := hx598_0
      cases e598
      replace hx598_0 := (HB.out.cell (World.block_lt_of_cell? w _ hx598_0)).trans hx598_0
      replace p598 := eq_true p598
      replace q598 := eq_true q598
      have p15 : 0 ≤ ((ji8) : Int) := of_decide_eq_true (by first | (with_reducible assumption) | assumption)
      have q15 : ((ji8) : Int) < ((x3_1.length : Int) : Int) := of_decide_eq_true (by first | (with_reducible assumption) | assumption)
      obtain ⟨go15, co15, eo15, gb15, gl15, cl15, HG15⟩ := Kd.R_form HO_3.out (by omega)
      (first |  cases eo15|  (injection eo15 with ea_ en_ ec_; (first |  subst ea_|  (injection ea_ with ea_; subst ea_)); subst ec_; clear en_))
      have GB15 := zMk gb15
      have IGB15 := ownGe GB15.out
      have GG15 := zMk HG15
      clear gb15 gl15 HG15
      (first | simp only [add_plain] at hx597_0 | skip)
      obtain ⟨hx15_0, hf15_0⟩ := Kd.R_celln 0 HO_3.out ((ji8) : Int) p15 q15
      replace p15 := eq_true p15
      replace q15 := eq_true q15
      have HP18 := Kd.R_putn HO_3.out ((ji8) : Int) (Go.bits .or .u32 (rd x3_1 (ji8)) (ji14))
      rw [← Ny599.out] at HP18
      have HQ18 := zMk HP18
      clear HP18
      refine start_ (n := 20) (S := fun w' => w'.cell? ⟨go15, ((ji8)).toNat, none⟩ = some (.int .u32 (rd x3_1 (ji8))) ∧ w'.cell? (ad598.add (x4_1).toNat) = some (.int .u8 (rd l0 x4_1))) (ds := [19]) #[false, false, false, false, false, false, false, false, false, false, false, false, false, false, false, false, false, false, false, false] (by kernel_rfl) rfl rfl ⟨hx597_0, ((HB.out.cell (World.block_lt_of_cell? w _ hw598_0)).trans hw598_0)⟩ (fun hHeld => ?_); refine with_tabW r1_limbs.tab5 r1_limbs.bits5 (fun HT_ HW_ => ?_)
      generalize wr.drew = w16 at HO_3 HB GG15 HQ18 hf15_0 hx15_0 hx597_0 hx598_0 hHeld ⊢
      refine pure_ (i := 0) (N := some 16) (v := ?_) (a' := ?_) #[true, false, false, false, false, false, false, false, false, false, false, false, false, false, false, false, false, false, false, false] rfl rfl (any_of HT_.out (by kernel_rfl)) (fun _ _ _ h => h) (Or.inl ⟨by rfl, ?_⟩) ?_ ?_
      rotate_left
      · intro w'
        go_simp
        with_reducible rfl
      rotate_left
      · simp only [Act.put, zSa, zSb, zSc, i64_w, i32_w]
        rfl
      refine pure_ (i := 1) (N := some 17) (v := ?_) (a' := ?_) #[true, true, false, false, false, false, false, false, false, false, false, false, false, false, false, false, false, false, false, false] rfl rfl (any_of HT_.out (by kernel_rfl)) (fun _ _ _ h => h) (Or.inl ⟨by rfl, ?_⟩) ?_ ?_
      rotate_left
      · intro w'
        go_simp
        with_reducible rfl
      rotate_left
      · simp only [Act.put, zSa, zSb, zSc, i64_w, i32_w]
        rfl
      refine pure_ (i := 2) (N := some 18) (v := ?_) (a' := ?_) #[true, true, true, false, false, false, false, false, false, false, false, false, false, false, false, false, false, false, false, false] rfl rfl (any_of HT_.out (by kernel_rfl)) (fun _ _ _ h => h) (Or.inl ⟨by rfl, ?_⟩) ?_ ?_
      rotate_left
      · intro w'
        go_simp
        with_reducible rfl
      rotate_left
      · simp only [Act.put, zSa, zSb, zSc, i64_w, i32_w]
        rfl
      refine pure_ (i := 3) (N := some 19) (v := ?_) (a' := ?_) #[true, true, true, true, false, false, false, false, false, false, false, false, false, false, false, false, false, false, false, false] rfl rfl (any_of HT_.out (by kernel_rfl)) (fun _ _ _ h => h) (Or.inl ⟨by rfl, ?_⟩) ?_ ?_
      rotate_left
      · intro w'
        go_simp
        with_reducible rfl
      rotate_left
      · simp only [Act.put, zSa, zSb, zSc, i64_w, i32_w]
        rfl
      refine pure_ (i := 4) (N := some 20) (v := ?_) (a' := ?_) #[true, true, true, true, true, false, false, false, false, false, false, false, false, false, false, false, false, false, false, false] rfl rfl (any_of HT_.out (by kernel_rfl)) (fun _ _ _ h => h) (Or.inl ⟨by rfl, ?_⟩) ?_ ?_
      rotate_left
      · intro w'
        go_simp
        with_reducible rfl
      rotate_left
      · simp only [Act.put, zSa, zSb, zSc, i64_w, i32_w]
        rfl
      refine pure_ (i := 5) (N := some 21) (v := ?_) (a' := ?_) #[true, true, true, true, true, true, false, false, false, false, false, false, false, false, false, false, false, false, false, false] rfl rfl (any_of HT_.out (by kernel_rfl)) (fun _ _ _ h => h) (Or.inl ⟨by rfl, ?_⟩) ?_ ?_
      rotate_left
      · intro w'
        go_simp
        with_reducible rfl
      rotate_left
      · simp only [Act.put, zSa, zSb, zSc, i64_w, i32_w]
        rfl
      refine pure_ (i := 6) (N := some 22) (v := ?_) (a' := ?_) #[true, true, true, true, true, true, true, false, false, false, false, false, false, false, false, false, false, false, false, false] rfl rfl (any_of HT_.out (by kernel_rfl)) (fun _ _ _ h => h) (Or.inl ⟨by rfl, ?_⟩) ?_ ?_
      rotate_left
      · intro w'
        go_simp
        with_reducible rfl
      rotate_left
      · simp only [Act.put, zSa, zSb, zSc, i64_w, i32_w]
        rfl
      refine pure_ (i := 8) (N := some 24) (v := ?_) (a' := ?_) #[true, true, true, true, true, true, true, false, true, false, false, false, false, false, false, false, false, false, false, false] rfl rfl (any_of HT_.out (by kernel_rfl)) (fun _ _ _ h => h) (Or.inl ⟨by rfl, ?_⟩) ?_ ?_
      rotate_left
      · intro w'
        go_simp
        with_reducible rfl
      rotate_left
      · simp only [Act.put, zSa, zSb, zSc, i64_w, i32_w]
        rfl
      refine pure_ (i := 9) (N := some 25) (v := ?_) (a' := ?_) #[true, true, true, true, true, true, true, false, true, true, false, false, false, false, false, false, false, false, false, false] rfl rfl (any_of HT_.out (by kernel_rfl)) (fun _ _ _ h => h) (Or.inl ⟨by rfl, ?_⟩) ?_ ?_
      rotate_left
      · intro w'
        go_simp
        with_reducible rfl
      rotate_left
      · simp only [Act.put, zSa, zSb, zSc, i64_w, i32_w]
        rfl
      refine pure_ (i := 10) (N := some 26) (v := ?_) (a' := ?_) #[true, true, true, true, true, true, true, false, true, true, true, false, false, false, false, false, false, false, false, false] rfl rfl (any_of HT_.out (by kernel_rfl)) (fun _ _ _ h => h) (Or.inl ⟨by rfl, ?_⟩) ?_ ?_
      rotate_left
      · intro w'
        go_simp
        with_reducible rfl
      rotate_left
      · simp only [Act.put, zSa, zSb, zSc, i64_w, i32_w]
        rfl
      refine pure_ (i := 13) (N := some 29) (v := ?_) (a' := ?_) #[true, true, true, true, true, true, true, false, true, true, true, false, false, true, false, false, false, false, false, false] rfl rfl (any_of HT_.out (by kernel_rfl)) (fun _ _ _ h => h) (Or.inl ⟨by rfl, ?_⟩) ?_ ?_
      rotate_left
      · intro w'
        go_simp
        with_reducible rfl
      rotate_left
      · simp only [Act.put, zSa, zSb, zSc, i64_w, i32_w]
        rfl
      refine pure_ (i := 14) (N := some 30) (v := ?_) (a' := ?_) #[true, true, true, true, true, true, true, false, true, true, true, false, false, true, true, false, false, false, false, false] rfl rfl (any_of HT_.out (by kernel_rfl)) (fun _ _ _ h => h) (Or.inl ⟨by rfl, ?_⟩) ?_ ?_
      rotate_left
      · intro w'
        go_simp
        with_reducible rfl
      rotate_left
      · simp only [Act.put, zSa, zSb, zSc, i64_w, i32_w]
        rfl
      refine pure_ (i := 15) (N := some 31) (v := ?_) (a' := ?_) #[true, true, true, true, true, true, true, false, true, true, true, false, false, true, true, true, false, false, false, false] rfl rfl (any_of HT_.out (by kernel_rfl)) (fun _ _ _ h => h) (Or.inl ⟨by rfl, ?_⟩) ?_ ?_
      rotate_left
      · intro w'
        go_simp
        with_reducible rfl
      rotate_left
      · simp only [Act.put, zSa, zSb, zSc, i64_w, i32_w]
        rfl
      refine take_ (i := 7) (N := some 23) (v := ?_) (a' := ?_) #[true, true, true, true, true, true, true, true, true, true, true, false, false, true, true, true, false, false, false, false] rfl rfl (take_ofW HT_.out HW_.out (by kernel_rfl)) (fun _ _ _ h => h) (Or.inl ⟨by rfl, ?_⟩) hHeld ?_ ?_
      rotate_left
      · rintro w' ⟨s0, s1⟩
        go_simp
        with_reducible rfl
      rotate_left
      · simp only [Act.put, zSa, zSb, zSc, i64_w, i32_w]
        rfl
      refine take_ (i := 11) (N := some 27) (v := ?_) (a' := ?_) #[true, true, true, true, true, true, true, true, true, true, true, true, false, true, true, true, false, false, false, false] rfl rfl (take_ofW HT_.out HW_.out (by kernel_rfl)) (fun _ _ _ h => h) (Or.inl ⟨by rfl, ?_⟩) hHeld ?_ ?_
      rotate_left
      · rintro w' ⟨s0, s1⟩
        go_simp
        with_reducible rfl
      rotate_left
      · simp only [Act.put, zSa, zSb, zSc, i64_w, i32_w]
        rfl
      refine pure_ (i := 12) (N := some 28) (v := ?_) (a' := ?_) #[true, true, true, true, true, true, true, true, true, true, true, true, true, true, true, true, false, false, false, false] rfl rfl (any_of HT_.out (by kernel_rfl)) (fun _ _ _ h => h) (Or.inl ⟨by rfl, ?_⟩) ?_ ?_
      rotate_left
      · intro w'
        go_simp
        with_reducible rfl
      rotate_left
      · simp only [Act.put, zSa, zSb, zSc, i64_w, i32_w]
        rfl
      refine pure_ (i := 16) (N := some 32) (v := ?_) (a' := ?_) #[true, true, true, true, true, true, true, true, true, true, true, true, true, true, true, true, true, false, false, false] rfl rfl (any_of HT_.out (by kernel_rfl)) (fun _ _ _ h => h) (Or.inl ⟨by rfl, ?_⟩) ?_ ?_
      rotate_left
      · intro w'
        go_simp
        with_reducible rfl
      rotate_left
      · simp only [Act.put, zSa, zSb, zSc, i64_w, i32_w]
        rfl
      refine pure_ (i := 17) (N := some 33) (v := ?_) (a' := ?_) #[true, true, true, true, true, true, true, true, true, true, true, true, true, true, true, true, true, true, false, false] rfl rfl (any_of HT_.out (by kernel_rfl)) (fun _ _ _ h => h) (Or.inl ⟨by rfl, ?_⟩) ?_ ?_
      rotate_left
      · intro w'
        go_simp
        with_reducible rfl
      rotate_left
      · simp only [Act.put, zSa, zSb, zSc, i64_w, i32_w]
        rfl
      refine pure_ (i := 18) (N := some 34) (v := ?_) (a' := ?_) #[true, true, true, true, true, true, true, true, true, true, true, true, true, true, true, true, true, true, true, false] rfl rfl (any_of HT_.out (by kernel_rfl)) (fun _ _ _ h => h) (Or.inl ⟨by rfl, ?_⟩) ?_ ?_
      rotate_left
      · intro w'
        go_simp
        with_reducible rfl
      rotate_left
      · simp only [Act.put, zSa, zSb, zSc, i64_w, i32_w]
        rfl
      refine last_ (i := 19) (N := none) #[true, true, true, true, true, true, true, true, true, true, true, true, true, true, true, true, true, true, true, true] rfl rfl (one_of HT_.out (by kernel_rfl)) (by decide) (fun K hK => ?_)
      refine skip_ (w1 := ?_) (by rfl) rfl ?_ ?_
      rotate_left
      · go_simp
        rfl
      refine hK.out _ _ ?_
      clear hK K
      refine done_ (done_of HT_.out (by kernel_rfl)) ?_
      try go_wp2
      go_roundg k1
      case measure => have := HK1.out; omega
      case rel => exact ⟨(y599), (wrap64 (x4_1 + 1)), (by first | rfl | (simp; done) | (simp [*]; done)), H', ⟨by have := HK1.out; omega⟩, ⟨by (with_reducible repeat (first | apply zRa | apply zRn | apply zRd)); (first | exact HQ18.out | (rw [hji14m]; exact HQ18.out))⟩, ⟨by exact uT HB.out⟩⟩
    · rw [if_neg c7] at H
      have c7b0 : decide (x4_1 < (l0.length : Int)) = false := decide_eq_false c7
      clear c7
      replace H := bnd H
      obtain ⟨t600, A190, H⟩ := H
      have A19 := zMk A190
      clear A190
      obtain rfl := zOi H
      obtain ⟨Ao20, co20, eo20⟩ := zRs HO_3.out
      subst eo20
      go_wp2_with (first |  ((with_reducible refine gate_callee (f := 63) rfl ?_); refine goesL_ (some 36) rfl rfl Tryd.func63 (by kernel_rfl) rfl #[.slice Ao20 x3_1.length co20] rfl (by (try simp only [zMa, zMc, zMn]); first |  done|  rfl|  (simp only [zLd, zLt]; rfl)) ?_; (with_reducible refine (r1_Norm.calls k1 _ _ x3_1 t600 _ ?side1 ?side2 A19.out).mono ?_); (case side1 => exact uC (zRr HO_3.out).2.2); (case side2 => exact (zRr HO_3.out).2.1); rintro e w21 ⟨v601, rfl, ho0, hb⟩; refine ⟨_, rfl, ?_⟩; have HO602 := zMk (zRl (zRw ho0 (zRt (by exact uR HO_3.out))) (zBs (by exact uT HB.out))); replace HO_3 := zMk (zRe (by exact uR HO_3.out) (zRz ho0) hb); replace HB := zMk (zBt (by exact uT HB.out) hb); (try clear hb); (try clear hb2); (try clear hk); (try clear hi); (try clear ho0)))
      go_ret
      exact ⟨_, by first | rfl | (simp [errW_none, errW_some] <;> rfl) | (simp only [← hji2]; first | rfl | (simp [errW_none, errW_some] <;> rfl)) | (simp [*, errW_none, errW_some] <;> rfl), by (with_reducible repeat (first | apply zRa | apply zRn | apply zRd)); exact zRm HO602.out (fun _ hk => trivial), by exact uT HB.out⟩
  · rw [if_neg c3] at H
    exact absurd H (by simp)


def r1_at.f (l0 : List Int) (a1 : Int) : Option (Int) := if a1 < (l0.length : Int) then (if 0 ≤ a1 then (some (rd l0 a1)) else (none)) else (some 0)
set_option maxHeartbeats 8000000 in
set_option maxRecDepth 100000 in
theorem r1_at.calls (A0 : Option Addr) (c0 : Nat) (l0 : List Int) (a1 : Int) (r : Int) (w : World) (hr0 : Kd.C (Kd.int .u8) w A0 l0.length l0) (hc0 : l0.length ≤ c0) (h : r1_at.f l0 a1 = some r) :
    Calls Tryd.prog 68 #[.slice A0 l0.length c0, .int .i64 a1] w fun e w' => e = .returned (.int .u8 r) ∧ Drawn0 w w' := by
  have HR0 := zMk hr0
  have HC0 := zMk hc0
  clear hr0 hc0
  have H : (if a1 < (l0.length : Int) then (if 0 ≤ a1 then (some (rd l0 a1)) else (none)) else (some 0)) = some r := h
  clear h
  by_cases c3 : a1 < (l0.length : Int)
  · rw [if_pos c3] at H
    have c3b0 : decide (a1 < (l0.length : Int)) = true := decide_eq_true c3
    clear c3
    by_cases c4 : 0 ≤ a1
    rotate_left
    · rw [if_neg c4] at H; exact absurd H (by simp)
    rw [if_pos c4] at H
    have c4b0 : decide (0 ≤ a1) = true := decide_eq_true c4
    clear c4
    obtain rfl := zOi H
    have p603 : 0 ≤ (a1 : Int) := of_decide_eq_true (by first | (with_reducible assumption) | assumption)
    have q603 : a1 < (l0.length : Int) := of_decide_eq_true (by first | (with_reducible assumption) | assumption)
    obtain ⟨ad603, e603, hx603_0⟩ := zAi HR0.out a1 p603 q603
    cases e603
    replace p603 := eq_true p603
    replace q603 := eq_true q603
    go_enter Tryd.func68, Tryd.ntmps68
    go_wp2
    go_ret
    exact ⟨by first | rfl | (simp; done) | (simp [*]; done), by repeat (first | exact Drawn0.refl _ | apply Drawn0.step)⟩
  · rw [if_neg c3] at H
    have c3b0 : decide (a1 < (l0.length : Int)) = false := decide_eq_false c3
    clear c3
    obtain rfl := zOi H
    go_enter Tryd.func68, Tryd.ntmps68
    go_wp2
    go_ret
    exact ⟨by first | rfl | (simp; done) | (simp [*]; done), by repeat (first | exact Drawn0.refl _ | apply Drawn0.step)⟩


def r1_sum.l0 : Nat → List Int → List Int → List Int → Int → Int → Option (List Int)
  | 0, _, _, _, _, _ => none
  | k + 1, x0, x1, x5, x6, x7 => if x7 ≤ (mx (x0.length : Int) (x1.length : Int)) then ((r1_at.f x0 x7).bind fun t604 => ((r1_at.f x1 x7).bind fun t605 => (if x5.length < 140737488355328 then (r1_sum.l0 k x0 x1 (x5 ++ [Go.bits .and .u8 ((((t604 + t605) % 256) + x6) % 256) 1]) (((((t604 + t605) % 256) + x6) % 256) / 2) (wrap64 (x7 + 1))) else (none)))) else (some x5)
def r1_sum.f (k : Nat) (l0 : List Int) (l1 : List Int) : Option (List Int) := r1_sum.l0 k l0 l1 ([] : List Int) 0 0
set_option maxHeartbeats 8000000 in
set_option maxRecDepth 100000 in
theorem r1_sum.calls (k : Nat) (A0 : Option Addr) (c0 : Nat) (l0 : List Int) (A1 : Option Addr) (c1 : Nat) (l1 : List Int) (r : List Int) (w : World) (hr0 : Kd.C (Kd.int .u8) w A0 l0.length l0) (hc0 : l0.length ≤ c0) (hr1 : Kd.C (Kd.int .u8) w A1 l1.length l1) (hc1 : l1.length ≤ c1) (h : r1_sum.f k l0 l1 = some r) :
    Calls Tryd.prog 67 #[.slice A0 l0.length c0, .slice A1 l1.length c1] w fun e w' => ∃ v0_ : Value, e = .returned (v0_) ∧ Kd.R (Kd.int .u8) 5 w' w.heap.size (fun _ => True) v0_ r ∧ Below w.heap.size w w' := by
  have HR0 := zMk hr0
  have HC0 := zMk hc0
  clear hr0 hc0
  have HR1 := zMk hr1
  have HC1 := zMk hc1
  clear hr1 hc1
  have HB := zMk (Below.refl w.heap.size w)
  have H : (r1_sum.l0 k l0 l1 ([] : List Int) 0 0) = some r := h
  clear h
  have H' := zMk H
  clear H
  go_enter Tryd.func67, Tryd.ntmps67
  go_wp2
  go_loopg [5, 6, 7] k (fun kq v5 v6 v7 w' => ∃ (x5_1 : List Int) (x6_1 : Int) (x7_1 : Int), v6 = .int .u8 x6_1 ∧ v7 = .int .i64 x7_1 ∧ Aside0 (r1_sum.l0 kq l0 l1 x5_1 x6_1 x7_1 = some r) ∧ Aside0 (kq ≤ k) ∧ Aside0 (Kd.R (Kd.int .u8) 5 w' w.heap.size (fun _ => True) v5 x5_1) ∧ Aside0 (Below w.heap.size w w'))
  case atStart => exact ⟨(([] : List Int)), (0), (0), (by first | rfl | (simp; done) | (simp [*]; done)), (by first | rfl | (simp; done) | (simp [*]; done)), H', ⟨Nat.le_refl _⟩, ⟨by first | exact Kd.R_nil _ _ _ _ _ | exact Kd.N_nil _ _ _ _ _ | exact Kd.V_nil _ _ _ _ _ | exact Kd.Q_nil _ _ _ _ _ | exact Kd.S_nil _ _ _ _ _⟩, ⟨by exact uT HB.out⟩⟩
  clear H'
  obtain ⟨x5_1, x6_1, x7_1, rfl, rfl, HA, HK1, HO_5, HB⟩ := hrel
  rcases gk with _ | k1
  · exact absurd HA.out (by simp [r1_sum.l0])
  have H := HA.out
  clear HA
  simp only [r1_sum.l0] at H
  obtain ⟨ji3, hji3⟩ : ∃ j_ : Int, (mx (l0.length : Int) (l1.length : Int)) = j_ := ⟨_, rfl⟩
  replace H : (if x7_1 ≤ (ji3) then ((r1_at.f l0 x7_1).bind fun t604 => ((r1_at.f l1 x7_1).bind fun t605 => (if x5_1.length < 140737488355328 then (r1_sum.l0 k1 l0 l1 (x5_1 ++ [Go.bits .and .u8 ((((t604 + t605) % 256) + x6_1) % 256) 1]) (((((t604 + t605) % 256) + x6_1) % 256) / 2) (wrap64 (x7_1 + 1))) else (none)))) else (some x5_1)) = some r := by first | (rw [hji3] at H; exact H) | (simp only [hji3] at H ⊢; exact H)
  have hji3_ : (if (l0.length : Int) < (l1.length : Int) then (l1.length : Int) else (l0.length : Int)) = ji3 := hji3
  have hji3_n : (if l0.length < l1.length then (l1.length : Int) else (l0.length : Int)) = ji3 := by rw [← hji3]; simp only [mx, mn, Int.ofNat_lt]
  by_cases c4 : x7_1 ≤ (ji3)
  · rw [if_pos c4] at H
    have c4b0 : decide (x7_1 ≤ (ji3)) = true := decide_eq_true c4
    clear c4
    replace H := bnd H
    obtain ⟨t604, A50, H⟩ := H
    have A5 := zMk A50
    clear A50
    replace H := bnd H
    obtain ⟨t605, A60, H⟩ := H
    have A6 := zMk A60
    clear A60
    by_cases c7 : x5_1.length < 140737488355328
    rotate_left
    · rw [if_neg c7] at H; exact absurd H (by simp)
    rw [if_pos c7] at H
    have LMc7 := zMk c7
    clear c7
    obtain ⟨y606, hy606⟩ : ∃ y_ : List Int, y_ = (x5_1 ++ [Go.bits .and .u8 ((((t604 + t605) % 256) + x6_1) % 256) 1]) := ⟨_, rfl⟩
    replace H : (r1_sum.l0 k1 l0 l1 y606 (((((t604 + t605) % 256) + x6_1) % 256) / 2) (wrap64 (x7_1 + 1))) = some r := by first | (rw [hy606]; with_reducible exact H) | (have H2_ := (zOb _ _).symm.trans H; rw [hy606]; with_reducible exact H2_) | (have H2_ := (zOb _ _).symm.trans H; with_reducible exact H2_) | with_reducible exact H | (rw [hy606]; exact H) | exact H
    have Ny606 := zMk hy606
    clear hy606
    have H' := zMk H
    clear H
    go_wp2_with (first |  ((with_reducible refine gate_callee (f := 68) rfl ?_); refine goesL_ (some 20) rfl rfl Tryd.func68 (by kernel_rfl) rfl #[.slice A0 l0.length c0, .int .i64 x7_1] rfl (by (try simp only [zMa, zMc, zMn]); first |  done|  rfl|  (simp only [zLd, zLt]; rfl)) ?_; (with_reducible refine (r1_at.calls _ _ l0 x7_1 t604 _ ?side1 ?side2 A5.out).mono ?_); (case side1 => repeat (first |  exact (Kd.C_below HR0.out HB.out)|  (with_reducible refine zCa ?_ _)|  (with_reducible refine zCn ?_ _)|  (with_reducible refine zCd ?_))); (case side2 => exact HC0.out); rintro e w' ⟨rfl, ⟨nd, rfl⟩⟩; refine ⟨_, rfl, ?_⟩)|  ((with_reducible refine gate_callee (f := 68) rfl ?_); refine goesL_ (some 23) rfl rfl Tryd.func68 (by kernel_rfl) rfl #[.slice A1 l1.length c1, .int .i64 x7_1] rfl (by (try simp only [zMa, zMc, zMn]); first |  done|  rfl|  (simp only [zLd, zLt]; rfl)) ?_; (with_reducible refine (r1_at.calls _ _ l1 x7_1 t605 _ ?side1 ?side2 A6.out).mono ?_); (case side1 => repeat (first |  exact (Kd.C_below HR1.out (by exact uT HB.out))|  (with_reducible refine zCa ?_ _)|  (with_reducible refine zCn ?_ _)|  (with_reducible refine zCd ?_))); (case side2 => exact HC1.out); rintro e w' ⟨rfl, ⟨nd, rfl⟩⟩; refine ⟨_, rfl, ?_⟩)|  ((with_reducible refine gate_builtin (b := .append) (xs := #[.tmp 27, .tmp 30]) rfl ?_); at_builtin; refine Kd.R_append (Kd.int .u8) (w0 := w) w.heap.size rfl (.tmp 27) (.tmp 30) 67 5 (.int .u8 0) 1 rfl Tryd.underlying67 info5 rfl (by decide) (by omega) u5 x5_1 (Go.bits .and .u8 ((t604 + t605 + x6_1) % 256) 1) [.int .u8 (Go.bits .and .u8 ((t604 + t605 + x6_1) % 256) 1)] (fun _ => True) (fun _ => False) rfl rfl ?aP (fun _ hk => hk.elim) ?aF ?aO ?aB ?aS ?aL ?_; (case aP => exact rfl); (case aB => exact (by exact uT HB.out)); (case aF => exact (fun _ _ => trivial)); (case aO => exact (by exact uR HO_5.out)); (case aS => exact (zBs (by exact uT HB.out))); (case aL => have := LMc7.out; omega); intro v607 w8 ho hb hg hat; rw [show ((t604 + t605 + x6_1) % 256) = ((((t604 + t605) % 256) + x6_1) % 256) from by omega] at ho; rw [← Ny606.out] at ho; replace HB := zMk (hb); have HO608 := zMk (ho); clear HO_5 ho hb hg hat))
    go_roundg k1
    case measure => have := HK1.out; omega
    case rel => exact ⟨(y606), (((((t604 + t605) % 256) + x6_1) % 256) / 2), (wrap64 (x7_1 + 1)), (by first | rfl | (simp; done) | (simp [*]; done)), (by first | rfl | (simp; done) | (simp [*]; done)), H', ⟨by have := HK1.out; omega⟩, ⟨by exact uR HO608.out⟩, ⟨by exact uT HB.out⟩⟩
  · rw [if_neg c4] at H
    have c4b0 : decide (x7_1 ≤ (ji3)) = false := decide_eq_false c4
    clear c4
    obtain rfl := zOi H
    go_wp2
    go_ret
    exact ⟨_, by first | rfl | (simp [errW_none, errW_some] <;> rfl) | (simp only [← hji3]; first | rfl | (simp [errW_none, errW_some] <;> rfl)) | (simp [*, errW_none, errW_some] <;> rfl), by exact uR HO_5.out, by exact uT HB.out⟩


def r1_Add.f (k : Nat) (l0 : List Int) (l1 : List Int) : Option (List Int) := (r1_bits.f k l0).bind fun t609 => ((r1_bits.f k l1).bind fun t612 => ((r1_sum.f k t609 t612).bind fun t615 => ((r1_limbs.f k t615).bind fun t618 => (some t618))))
set_option maxHeartbeats 8000000 in
set_option maxRecDepth 100000 in
theorem r1_Add.calls (k : Nat) (A0 : Option Addr) (c0 : Nat) (l0 : List Int) (A1 : Option Addr) (c1 : Nat) (l1 : List Int) (r : List Int) (w : World) (hr0 : Kd.C (Kd.int .u32) w A0 l0.length l0) (hc0 : l0.length ≤ c0) (hr1 : Kd.C (Kd.int .u32) w A1 l1.length l1) (hc1 : l1.length ≤ c1) (h : r1_Add.f k l0 l1 = some r) :
    Calls Tryd.prog 41 #[.slice A0 l0.length c0, .slice A1 l1.length c1] w fun e w' => ∃ v0_ : Value, e = .returned (v0_) ∧ Kd.R (Kd.int .u32) 58 w' w.heap.size (fun _ => True) v0_ r ∧ Below w.heap.size w w' := by
  have HR0 := zMk hr0
  have HC0 := zMk hc0
  clear hr0 hc0
  have HR1 := zMk hr1
  have HC1 := zMk hc1
  clear hr1 hc1
  have HB := zMk (Below.refl w.heap.size w)
  have H : ((r1_bits.f k l0).bind fun t609 => ((r1_bits.f k l1).bind fun t612 => ((r1_sum.f k t609 t612).bind fun t615 => ((r1_limbs.f k t615).bind fun t618 => (some t618))))) = some r := h
  clear h
  replace H := bnd H
  obtain ⟨t609, A30, H⟩ := H
  have A3 := zMk A30
  clear A30
  replace H := bnd H
  obtain ⟨t612, A40, H⟩ := H
  have A4 := zMk A40
  clear A40
  replace H := bnd H
  obtain ⟨t615, A50, H⟩ := H
  have A5 := zMk A50
  clear A50
  replace H := bnd H
  obtain ⟨t618, A60, H⟩ := H
  have A6 := zMk A60
  clear A60
  obtain rfl := zOi H
  go_enter Tryd.func41, Tryd.ntmps41
  go_wp2_with (first |  ((with_reducible refine gate_callee (f := 64) rfl ?_); refine goesL_ (some 6) rfl rfl Tryd.func64 (by kernel_rfl) rfl #[.slice A0 l0.length c0] rfl (by (try simp only [zMa, zMc, zMn]); first |  done|  rfl|  (simp only [zLd, zLt]; rfl)) ?_; (with_reducible refine (r1_bits.calls k _ _ l0 t609 _ ?side1 ?side2 A3.out).mono ?_); (case side1 => repeat (first |  exact HR0.out|  (with_reducible refine zCa ?_ _)|  (with_reducible refine zCn ?_ _)|  (with_reducible refine zCd ?_))); (case side2 => exact HC0.out); rintro e w7 ⟨v610, rfl, ho0, hb⟩; refine ⟨_, rfl, ?_⟩; have HO611 := zMk (zRl ho0 (zBs (by exact uT HB.out))); replace HB := zMk (zBt (by exact uT HB.out) hb); (try clear hb); (try clear hb2); (try clear hk); (try clear hi); (try clear ho0))|  ((with_reducible refine gate_callee (f := 64) rfl ?_); refine goesL_ (some 8) rfl rfl Tryd.func64 (by kernel_rfl) rfl #[.slice A1 l1.length c1] rfl (by (try simp only [zMa, zMc, zMn]); first |  done|  rfl|  (simp only [zLd, zLt]; rfl)) ?_; (with_reducible refine (r1_bits.calls k _ _ l1 t612 _ ?side1 ?side2 A4.out).mono ?_); (case side1 => repeat (first |  exact (Kd.C_below HR1.out HB.out)|  (with_reducible refine zCa ?_ _)|  (with_reducible refine zCn ?_ _)|  (with_reducible refine zCd ?_))); (case side2 => exact HC1.out); rintro e w8 ⟨v613, rfl, ho0, hb⟩; refine ⟨_, rfl, ?_⟩; have HO614 := zMk (zRl (zRw ho0 (zRt (by exact uR HO611.out))) (zBs (by exact uT HB.out))); replace HO611 := zMk (zRe (by exact uR HO611.out) (zRz ho0) hb); replace HB := zMk (zBt (by exact uT HB.out) hb); (try clear hb); (try clear hb2); (try clear hk); (try clear hi); (try clear ho0); obtain ⟨Ao9, co9, eo9⟩ := zRs HO611.out; subst eo9; obtain ⟨Ao10, co10, eo10⟩ := zRs HO614.out; subst eo10)|  ((with_reducible refine gate_callee (f := 67) rfl ?_); refine goesL_ (some 9) rfl rfl Tryd.func67 (by kernel_rfl) rfl #[.slice Ao9 t609.length co9, .slice Ao10 t612.length co10] rfl (by (try simp only [zMa, zMc, zMn]); first |  done|  rfl|  (simp only [zLd, zLt]; rfl)) ?_; (with_reducible refine (r1_sum.calls k _ _ t609 _ _ t612 t615 _ ?side1 ?side2 ?side3 ?side4 A5.out).mono ?_); (case side1 => exact uC (zRr HO611.out).2.2); (case side2 => exact (zRr HO611.out).2.1); (case side3 => exact uC (zRr HO614.out).2.2); (case side4 => exact (zRr HO614.out).2.1); rintro e w11 ⟨v616, rfl, ho0, hb⟩; refine ⟨_, rfl, ?_⟩; have HO617 := zMk (zRl (zRw (zRw ho0 (zRt (by exact uR HO611.out))) (zRt (by exact uR HO614.out))) (zBs (by exact uT HB.out))); replace HO611 := zMk (zRe (by exact uR HO611.out) (zRz ho0) hb); replace HO614 := zMk (zRe (by exact uR HO614.out) (zRz ho0) hb); replace HB := zMk (zBt (by exact uT HB.out) hb); (try clear hb); (try clear hb2); (try clear hk); (try clear hi); (try clear ho0); obtain ⟨Ao12, co12, eo12⟩ := zRs HO617.out; subst eo12)|  ((with_reducible refine gate_callee (f := 65) rfl ?_); refine goesL_ (some 10) rfl rfl Tryd.func65 (by kernel_rfl) rfl #[.slice Ao12 t615.length co12] rfl (by (try simp only [zMa, zMc, zMn]); first |  done|  rfl|  (simp only [zLd, zLt]; rfl)) ?_; (with_reducible refine (r1_limbs.calls k _ _ t615 t618 _ ?side1 ?side2 A6.out).mono ?_); (case side1 => exact uC (zRr HO617.out).2.2); (case side2 => exact (zRr HO617.out).2.1); rintro e w13 ⟨v619, rfl, ho0, hb⟩; refine ⟨_, rfl, ?_⟩; replace HO611 := zMk (zRb (by exact uR HO611.out) hb); replace HO614 := zMk (zRb (by exact uR HO614.out) hb); replace HO617 := zMk (zRb (by exact uR HO617.out) hb); have HO620 := zMk (zRl ho0 (zBs (by exact uT HB.out))); replace HB := zMk (zBt (by exact uT HB.out) hb); (try clear hb); (try clear hb2); (try clear hk); (try clear hi); (try clear ho0)))
  go_ret
  exact ⟨_, by first | rfl | (simp [errW_none, errW_some] <;> rfl) | (simp [*, errW_none, errW_some] <;> rfl), by exact uR HO620.out, by exact uT HB.out⟩


def r1_Mul.l0 : Nat → List Int → List Int → List Int → List Int → Int → Option (List Int)
  | 0, _, _, _, _, _ => none
  | k + 1, x5, x6, x7, x8, x9 => if x9 < (x6.length : Int) then (if 0 ≤ x9 then (if (rd x6 x9) = 1 then ((some (([] : List Int) : List Int)).bind fun y977 => (if y977.length + x8.length < 140737488355328 then ((some (y977 ++ x8 : List Int)).bind fun y980 => (if y980.length + x5.length < 140737488355328 then ((r1_sum.f k x7 (y980 ++ x5)).bind fun t986 => (if x8.length < 140737488355328 then (r1_Mul.l0 k x5 x6 t986 (x8 ++ [0]) (wrap64 (x9 + 1))) else (none))) else (none))) else (none))) else (if x8.length < 140737488355328 then (r1_Mul.l0 k x5 x6 x7 (x8 ++ [0]) (wrap64 (x9 + 1))) else (none))) else (none)) else ((r1_limbs.f k x7).bind fun t995 => (some t995))
def r1_Mul.f (k : Nat) (l0 : List Int) (l1 : List Int) : Option (List Int) := (r1_Norm.f k l0).bind fun t964 => ((r1_bits.f k t964).bind fun t967 => ((r1_Norm.f k l1).bind fun t970 => ((r1_bits.f k t970).bind fun t973 => (r1_Mul.l0 k t967 t973 ([] : List Int) ([] : List Int) 0))))
set_option maxHeartbeats 8000000 in
set_option maxRecDepth 100000 in
theorem r1_Mul.calls (k : Nat) (A0 : Option Addr) (c0 : Nat) (l0 : List Int) (A1 : Option Addr) (c1 : Nat) (l1 : List Int) (r : List Int) (w : World) (hr0 : Kd.C (Kd.int .u32) w A0 l0.length l0) (hc0 : l0.length ≤ c0) (hr1 : Kd.C (Kd.int .u32) w A1 l1.length l1) (hc1 : l1.length ≤ c1) (h : r1_Mul.f k l0 l1 = some r) :
    Calls Tryd.prog 46 #[.slice A0 l0.length c0, .slice A1 l1.length c1] w fun e w' => ∃ v0_ : Value, e = .returned (v0_) ∧ Kd.R (Kd.int .u32) 58 w' w.heap.size (fun _ => True) v0_ r ∧ Below w.heap.size w w' := by
  have HR0 := zMk hr0
  have HC0 := zMk hc0
  clear hr0 hc0
  have HR1 := zMk hr1
  have HC1 := zMk hc1
  clear hr1 hc1
  have HB := zMk (Below.refl w.heap.size w)
  have H : ((r1_Norm.f k l0).bind fun t964 => ((r1_bits.f k t964).bind fun t967 => ((r1_Norm.f k l1).bind fun t970 => ((r1_bits.f k t970).bind fun t973 => (r1_Mul.l0 k t967 t973 ([] : List Int) ([] : List Int) 0))))) = some r := h
  clear h
  replace H := bnd H
  obtain ⟨t964, A30, H⟩ := H
  have A3 := zMk A30
  clear A30
  replace H := bnd H
  obtain ⟨t967, A40, H⟩ := H
  have A4 := zMk A40
  clear A40
  replace H := bnd H
  obtain ⟨t970, A50, H⟩ := H
  have A5 := zMk A50
  clear A50
  replace H := bnd H
  obtain ⟨t973, A60, H⟩ := H
  have A6 := zMk A60
  clear A60
  have H' := zMk H
  clear H
  go_enter Tryd.func46, Tryd.ntmps46
  go_wp2_with (first |  ((with_reducible refine gate_callee (f := 63) rfl ?_); refine goesL_ (some 11) rfl rfl Tryd.func63 (by kernel_rfl) rfl #[.slice A0 l0.length c0] rfl (by (try simp only [zMa, zMc, zMn]); first |  done|  rfl|  (simp only [zLd, zLt]; rfl)) ?_; (with_reducible refine (r1_Norm.calls k _ _ l0 t964 _ ?side1 ?side2 A3.out).mono ?_); (case side1 => repeat (first |  exact HR0.out|  (with_reducible refine zCa ?_ _)|  (with_reducible refine zCn ?_ _)|  (with_reducible refine zCd ?_))); (case side2 => exact HC0.out); rintro e w7 ⟨v965, rfl, ho0, hb⟩; refine ⟨_, rfl, ?_⟩; have HO966 := zMk (zRl ho0 (zBs (by exact uT HB.out))); replace HB := zMk (zBt (by exact uT HB.out) hb); (try clear hb); (try clear hb2); (try clear hk); (try clear hi); (try clear ho0); obtain ⟨Ao8, co8, eo8⟩ := zRs HO966.out; subst eo8)|  ((with_reducible refine gate_callee (f := 64) rfl ?_); refine goesL_ (some 12) rfl rfl Tryd.func64 (by kernel_rfl) rfl #[.slice Ao8 t964.length co8] rfl (by (try simp only [zMa, zMc, zMn]); first |  done|  rfl|  (simp only [zLd, zLt]; rfl)) ?_; (with_reducible refine (r1_bits.calls k _ _ t964 t967 _ ?side1 ?side2 A4.out).mono ?_); (case side1 => exact uC (zRr HO966.out).2.2); (case side2 => exact (zRr HO966.out).2.1); rintro e w9 ⟨v968, rfl, ho0, hb⟩; refine ⟨_, rfl, ?_⟩; replace HO966 := zMk (zRb (by exact uR HO966.out) hb); have HO969 := zMk (zRl ho0 (zBs (by exact uT HB.out))); replace HB := zMk (zBt (by exact uT HB.out) hb); (try clear hb); (try clear hb2); (try clear hk); (try clear hi); (try clear ho0))|  ((with_reducible refine gate_callee (f := 63) rfl ?_); refine goesL_ (some 14) rfl rfl Tryd.func63 (by kernel_rfl) rfl #[.slice A1 l1.length c1] rfl (by (try simp only [zMa, zMc, zMn]); first |  done|  rfl|  (simp only [zLd, zLt]; rfl)) ?_; (with_reducible refine (r1_Norm.calls k _ _ l1 t970 _ ?side1 ?side2 A5.out).mono ?_); (case side1 => repeat (first |  exact (Kd.C_below HR1.out HB.out)|  (with_reducible refine zCa ?_ _)|  (with_reducible refine zCn ?_ _)|  (with_reducible refine zCd ?_))); (case side2 => exact HC1.out); rintro e w10 ⟨v971, rfl, ho0, hb⟩; refine ⟨_, rfl, ?_⟩; replace HO969 := zMk (zRb (by exact uR HO969.out) hb); have HO972 := zMk (zRl (zRw ho0 (zRt (by exact uR HO966.out))) (zBs (by exact uT HB.out))); replace HO966 := zMk (zRe (by exact uR HO966.out) (zRz ho0) hb); replace HB := zMk (zBt (by exact uT HB.out) hb); (try clear hb); (try clear hb2); (try clear hk); (try clear hi); (try clear ho0); obtain ⟨Ao11, co11, eo11⟩ := zRs HO972.out; subst eo11)|  ((with_reducible refine gate_callee (f := 64) rfl ?_); refine goesL_ (some 15) rfl rfl Tryd.func64 (by kernel_rfl) rfl #[.slice Ao11 t970.length co11] rfl (by (try simp only [zMa, zMc, zMn]); first |  done|  rfl|  (simp only [zLd, zLt]; rfl)) ?_; (with_reducible refine (r1_bits.calls k _ _ t970 t973 _ ?side1 ?side2 A6.out).mono ?_); (case side1 => exact uC (zRr HO972.out).2.2); (case side2 => exact (zRr HO972.out).2.1); rintro e w12 ⟨v974, rfl, ho0, hb⟩; refine ⟨_, rfl, ?_⟩; replace HO966 := zMk (zRb (by exact uR HO966.out) hb); replace HO972 := zMk (zRb (by exact uR HO972.out) hb); have HO975 := zMk (zRl (zRw ho0 (zRt (by exact uR HO969.out))) (zBs (by exact uT HB.out))); replace HO969 := zMk (zRe (by exact uR HO969.out) (zRz ho0) hb); replace HB := zMk (zBt (by exact uT HB.out) hb); (try clear hb); (try clear hb2); (try clear hk); (try clear hi); (try clear ho0)))
  go_loopg [7, 8, 9] k (fun kq v7 v8 v9 w' => ∃ (x7_1 : List Int) (x8_1 : List Int) (x9_1 : Int), v9 = .int .i64 x9_1 ∧ Aside0 (r1_Mul.l0 kq t967 t973 x7_1 x8_1 x9_1 = some r) ∧ Aside0 (kq ≤ k) ∧ Aside0 (Kd.R (Kd.int .u8) 5 w' w.heap.size (fun k_ => some k_ ≠ (v974 : Value).ownBlock ∧ some k_ ≠ (v7 : Value).ownBlock ∧ some k_ ≠ (v8 : Value).ownBlock) v968 t967) ∧ Aside0 (Kd.R (Kd.int .u8) 5 w' w.heap.size (fun k_ => some k_ ≠ (v968 : Value).ownBlock ∧ some k_ ≠ (v7 : Value).ownBlock ∧ some k_ ≠ (v8 : Value).ownBlock) v974 t973) ∧ Aside0 (Kd.R (Kd.int .u8) 5 w' w.heap.size (fun k_ => some k_ ≠ (v968 : Value).ownBlock ∧ some k_ ≠ (v974 : Value).ownBlock ∧ some k_ ≠ (v8 : Value).ownBlock) v7 x7_1) ∧ Aside0 (Kd.R (Kd.int .u8) 5 w' w.heap.size (fun k_ => some k_ ≠ (v968 : Value).ownBlock ∧ some k_ ≠ (v974 : Value).ownBlock ∧ some k_ ≠ (v7 : Value).ownBlock) v8 x8_1) ∧ Aside0 (Below w.heap.size w w'))
  case atStart => exact ⟨(([] : List Int)), (([] : List Int)), (0), (by first | rfl | (simp; done) | (simp [*]; done)), H', ⟨Nat.le_refl _⟩, ⟨by (with_reducible repeat (first | apply zRa | apply zRn | apply zRd)); exact zRm HO969.out (fun _ hk => ⟨hk.2, ⟨(by simp [Value.ownBlock]), (by simp [Value.ownBlock])⟩⟩)⟩, ⟨by (with_reducible repeat (first | apply zRa | apply zRn | apply zRd)); exact zRm HO975.out (fun _ hk => ⟨hk.2, ⟨(by simp [Value.ownBlock]), (by simp [Value.ownBlock])⟩⟩)⟩, ⟨by first | exact Kd.R_nil _ _ _ _ _ | exact Kd.N_nil _ _ _ _ _ | exact Kd.V_nil _ _ _ _ _ | exact Kd.Q_nil _ _ _ _ _ | exact Kd.S_nil _ _ _ _ _⟩, ⟨by first | exact Kd.R_nil _ _ _ _ _ | exact Kd.N_nil _ _ _ _ _ | exact Kd.V_nil _ _ _ _ _ | exact Kd.Q_nil _ _ _ _ _ | exact Kd.S_nil _ _ _ _ _⟩, ⟨by exact uT HB.out⟩⟩
  clear H'
  obtain ⟨x7_1, x8_1, x9_1, rfl, HA, HK1, HO_5, HO_6, HO_7, HO_8, HB⟩ := hrel
  rcases gk with _ | k1
  · exact absurd HA.out (by simp [r1_Mul.l0])
  have H := HA.out
  clear HA
  simp only [r1_Mul.l0] at H
  by_cases c13 : x9_1 < (t973.length : Int)
  · rw [if_pos c13] at H
    have c13b0 : decide (x9_1 < (t973.length : Int)) = true := decide_eq_true c13
    clear c13
    by_cases c14 : 0 ≤ x9_1
    rotate_left
    · rw [if_neg c14] at H; exact absurd H (by simp)
    rw [if_pos c14] at H
    have c14b0 : decide (0 ≤ x9_1) = true := decide_eq_true c14
    clear c14
    by_cases c15 : (rd t973 x9_1) = 1
    · rw [if_pos c15] at H
      have c15b0 : ((rd t973 x9_1) == 1) = true := beq_iff_eq.mpr c15
      have c15b1 : ((rd t973 x9_1) != 1) = false := bne_eq_false_iff_eq.mpr c15
      clear c15
      obtain ⟨y977, hy977⟩ : ∃ y_ : List Int, y_ = (([] : List Int)) := ⟨_, rfl⟩
      replace H : (if y977.length + x8_1.length < 140737488355328 then ((some (y977 ++ x8_1 : List Int)).bind fun y980 => (if y980.length + t967.length < 140737488355328 then ((r1_sum.f k1 x7_1 (y980 ++ t967)).bind fun t986 => (if x8_1.length < 140737488355328 then (r1_Mul.l0 k1 t967 t973 t986 (x8_1 ++ [0]) (wrap64 (x9_1 + 1))) else (none))) else (none))) else (none)) = some r := by first | (rw [hy977]; with_reducible exact H) | (have H2_ := (zOb _ _).symm.trans H; rw [hy977]; with_reducible exact H2_) | (have H2_ := (zOb _ _).symm.trans H; with_reducible exact H2_) | with_reducible exact H | (rw [hy977]; exact H) | exact H
      have Ny977 := zMk hy977
      clear hy977
      by_cases c16 : y977.length + x8_1.length < 140737488355328
      rotate_left
      · rw [if_neg c16] at H; exact absurd H (by simp)
      rw [if_pos c16] at H
      have LMc16 := zMk c16
      clear c16
      obtain ⟨y980, hy980⟩ : ∃ y_ : List Int, y_ = (y977 ++ x8_1) := ⟨_, rfl⟩
      replace H : (if y980.length + t967.length < 140737488355328 then ((r1_sum.f k1 x7_1 (y980 ++ t967)).bind fun t986 => (if x8_1.length < 140737488355328 then (r1_Mul.l0 k1 t967 t973 t986 (x8_1 ++ [0]) (wrap64 (x9_1 + 1))) else (none))) else (none)) = some r := by first | (rw [hy980]; with_reducible exact H) | (have H2_ := (zOb _ _).symm.trans H; rw [hy980]; with_reducible exact H2_) | (have H2_ := (zOb _ _).symm.trans H; with_reducible exact H2_) | with_reducible exact H | (rw [hy980]; exact H) | exact H
      have Ny980 := zMk hy980
      clear hy980
      by_cases c17 : y980.length + t967.length < 140737488355328
      rotate_left
      · rw [if_neg c17] at H; exact absurd H (by simp)
      rw [if_pos c17] at H
      have LMc17 := zMk c17
      clear c17
      obtain ⟨y983, hy983⟩ : ∃ y_ : List Int, y_ = (y980 ++ t967) := ⟨_, rfl⟩
      replace H : ((r1_sum.f k1 x7_1 y983).bind fun t986 => (if x8_1.length < 140737488355328 then (r1_Mul.l0 k1 t967 t973 t986 (x8_1 ++ [0]) (wrap64 (x9_1 + 1))) else (none))) = some r := by first | (rw [hy983]; with_reducible exact H) | (have H2_ := (zOb _ _).symm.trans H; rw [hy983]; with_reducible exact H2_) | (have H2_ := (zOb _ _).symm.trans H; with_reducible exact H2_) | with_reducible exact H | (rw [hy983]; exact H) | exact H
      have Ny983 := zMk hy983
      clear hy983
      replace H := bnd H
      obtain ⟨t986, A180, H⟩ := H
      have A18 := zMk A180
      clear A180
      by_cases c19 : x8_1.length < 140737488355328
      rotate_left
      · rw [if_neg c19] at H; exact absurd H (by simp)
      rw [if_pos c19] at H
      have LMc19 := zMk c19
      clear c19
      obtain ⟨y989, hy989⟩ : ∃ y_ : List Int, y_ = (x8_1 ++ [0]) := ⟨_, rfl⟩
      replace H : (r1_Mul.l0 k1 t967 t973 t986 y989 (wrap64 (x9_1 + 1))) = some r := by first | (rw [hy989]; with_reducible exact H) | (have H2_ := (zOb _ _).symm.trans H; rw [hy989]; with_reducible exact H2_) | (have H2_ := (zOb _ _).symm.trans H; with_reducible exact H2_) | with_reducible exact H | (rw [hy989]; exact H) | exact H
      have Ny989 := zMk hy989
      clear hy989
      have H' := zMk H
      clear H
      obtain ⟨Ao20, co20, eo20⟩ := zRs HO_6.out
      subst eo20
      have p976 : 0 ≤ (x9_1 : Int) := of_decide_eq_true (by first | (with_reducible assumption) | assumption)
      have q976 : x9_1 < (t973.length : Int) := of_decide_eq_true (by first | (with_reducible assumption) | assumption)
      obtain ⟨ad976, e976, hx976_0⟩ := zAi (zRr HO_6.out).2.2 x9_1 p976 q976
      cases e976
      replace p976 := eq_true p976
      replace q976 := eq_true q976
      go_wp2_with (first |  ((with_reducible refine gate_dst (N := 28) rfl ?_); refine Kd.R_lit (Kd.int .u8) _ 5 ?hg (N := 28) ?hd (xs := ([] : List Int)) (inner := []) (ok := fun _ => True) (okp := fun _ => True) ?hr ?hp (fun _ hk => hk) trivial (Below.refl _ _) (Nat.le_refl _) (by simp) ?_; (case hd => rfl); (case hg => rfl); (case hr => first |  (go_simp; done)|  (go_simp; rfl)|  (go_simp; rw [show ∀ x : Int, IntKind.u32.wrap (IntKind.u8.wrap x) = x % 256 from fun x => (by show (x % 256) % 4294967296 = x % 256; omega)])); (case hp => exact (Reps.none _ _)); intro v978 w21 ho22 hb hg_ hnew_; clear hg_ hnew_; (first |  rw [← Ny977.out] at ho22|  (simp only [Int.reduceToNat] at ho22; rw [← Ny977.out] at ho22)); have HO979 := zMk (zRl (zRw (zRw (zRw (zRw ho22 (zRt (by exact uR HO_5.out))) (zRt (by exact uR HO_6.out))) (zRt (by exact uR HO_7.out))) (zRt (by exact uR HO_8.out))) (zBs (by exact uT HB.out))); replace HO_5 := zMk (zRe (by exact uR HO_5.out) (zRz ho22) hb); replace HO_6 := zMk (zRe (by exact uR HO_6.out) (zRz ho22) hb); replace HO_7 := zMk (zRe (by exact uR HO_7.out) (zRz ho22) hb); replace HO_8 := zMk (zRe (by exact uR HO_8.out) (zRz ho22) hb); replace HB := zMk (zBt (by exact uT HB.out) hb); clear hb ho22; obtain ⟨Ao24, co24, eo24⟩ := zRs HO_8.out; subst eo24)|  ((with_reducible refine gate_builtin (b := .append) (xs := #[.tmp 28, .tmp 29]) rfl ?_); at_builtin; refine Kd.R_append_rows (Kd.int .u8) (w0 := w) w.heap.size rfl (.tmp 28) (.tmp 29) 67 5 (.int .u8 0) 1 rfl Tryd.underlying67 info5 rfl (by decide) (by omega) v978 y977 x8_1 _ _ _ (fun k_ => some k_ ≠ (v968 : Value).ownBlock ∧ some k_ ≠ (.slice (some ad976) t973.length co20 : Value).ownBlock ∧ some k_ ≠ (u7 : Value).ownBlock ∧ some k_ ≠ (.slice Ao24 x8_1.length co24 : Value).ownBlock) (fun _ => False) rfl rfl ?aO ?aR (fun _ _ h => h) (fun _ h => h.elim) ?aF ?aB ?aS ?aL ?_; (case aR => exact uC (zRr HO_8.out).2.2); (case aB => exact (by exact uT HB.out)); (case aF => exact (fun k_ hk => ⟨Kd.fresh' (zRt (by exact uR HO_5.out)) k_ hk, Kd.fresh' (zRt (by exact uR HO_6.out)) k_ hk, Kd.fresh' (zRt (by exact uR HO_7.out)) k_ hk, Kd.fresh' (zRt (by exact uR HO_8.out)) k_ hk⟩)); (case aO => exact (by (with_reducible repeat (first |  apply zRa|  apply zRn|  apply zRd)); exact zRm HO979.out (fun _ hk => ⟨hk.1.1.1.2, ⟨hk.1.1.2, ⟨hk.1.2, hk.2⟩⟩⟩))); (case aS => exact (zBs (by exact uT HB.out))); (case aL => have := LMc16.out; omega); intro v981 w23 ho hb hg hat; rw [← Ny980.out] at ho; replace HO_5 := zMk (Kd.R_after (ok := (fun k_ => some k_ ≠ (.slice (some ad976) t973.length co20 : Value).ownBlock ∧ some k_ ≠ (u7 : Value).ownBlock ∧ some k_ ≠ (.slice Ao24 x8_1.length co24 : Value).ownBlock)) (by exact uR HO_5.out) hg hat); replace HO_6 := zMk (Kd.R_after (ok := (fun k_ => some k_ ≠ (v968 : Value).ownBlock ∧ some k_ ≠ (u7 : Value).ownBlock ∧ some k_ ≠ (.slice Ao24 x8_1.length co24 : Value).ownBlock)) (by exact uR HO_6.out) hg hat); replace HO_7 := zMk (Kd.R_after (ok := (fun k_ => some k_ ≠ (v968 : Value).ownBlock ∧ some k_ ≠ (.slice (some ad976) t973.length co20 : Value).ownBlock ∧ some k_ ≠ (.slice Ao24 x8_1.length co24 : Value).ownBlock)) (by exact uR HO_7.out) hg hat); replace HO_8 := zMk (Kd.R_after (ok := (fun k_ => some k_ ≠ (v968 : Value).ownBlock ∧ some k_ ≠ (.slice (some ad976) t973.length co20 : Value).ownBlock ∧ some k_ ≠ (u7 : Value).ownBlock)) (by exact uR HO_8.out) hg hat); replace HB := zMk (hb); have HO982 := zMk (ho); clear HO979 ho hb hg hat; obtain ⟨Ao26, co26, eo26⟩ := zRs HO_5.out; subst eo26)|  ((with_reducible refine gate_builtin (b := .append) (xs := #[.tmp 30, .tmp 31]) rfl ?_); at_builtin; refine Kd.R_append_rows (Kd.int .u8) (w0 := w) w.heap.size rfl (.tmp 30) (.tmp 31) 67 5 (.int .u8 0) 1 rfl Tryd.underlying67 info5 rfl (by decide) (by omega) v981 y980 t967 _ _ _ (fun k_ => some k_ ≠ (.slice Ao26 t967.length co26 : Value).ownBlock ∧ some k_ ≠ (.slice (some ad976) t973.length co20 : Value).ownBlock ∧ some k_ ≠ (u7 : Value).ownBlock ∧ some k_ ≠ (.slice Ao24 x8_1.length co24 : Value).ownBlock) (fun _ => False) rfl rfl ?aO ?aR (fun _ _ h => h) (fun _ h => h.elim) ?aF ?aB ?aS ?aL ?_; (case aR => exact uC (zRr HO_5.out).2.2); (case aB => exact (by exact uT HB.out)); (case aF => exact (fun k_ hk => ⟨Kd.fresh' (zRt (by exact uR HO_5.out)) k_ hk, Kd.fresh' (zRt (by exact uR HO_6.out)) k_ hk, Kd.fresh' (zRt (by exact uR HO_7.out)) k_ hk, Kd.fresh' (zRt (by exact uR HO_8.out)) k_ hk⟩)); (case aO => exact (by exact uR HO982.out)); (case aS => exact (zBs (by exact uT HB.out))); (case aL => have := LMc17.out; omega); intro v984 w25 ho hb hg hat; rw [← Ny983.out] at ho; replace HO_5 := zMk (Kd.R_after (ok := (fun k_ => some k_ ≠ (.slice (some ad976) t973.length co20 : Value).ownBlock ∧ some k_ ≠ (u7 : Value).ownBlock ∧ some k_ ≠ (.slice Ao24 x8_1.length co24 : Value).ownBlock)) (by exact uR HO_5.out) hg hat); replace HO_6 := zMk (Kd.R_after (ok := (fun k_ => some k_ ≠ (.slice Ao26 t967.length co26 : Value).ownBlock ∧ some k_ ≠ (u7 : Value).ownBlock ∧ some k_ ≠ (.slice Ao24 x8_1.length co24 : Value).ownBlock)) (by exact uR HO_6.out) hg hat); replace HO_7 := zMk (Kd.R_after (ok := (fun k_ => some k_ ≠ (.slice Ao26 t967.length co26 : Value).ownBlock ∧ some k_ ≠ (.slice (some ad976) t973.length co20 : Value).ownBlock ∧ some k_ ≠ (.slice Ao24 x8_1.length co24 : Value).ownBlock)) (by exact uR HO_7.out) hg hat); replace HO_8 := zMk (Kd.R_after (ok := (fun k_ => some k_ ≠ (.slice Ao26 t967.length co26 : Value).ownBlock ∧ some k_ ≠ (.slice (some ad976) t973.length co20 : Value).ownBlock ∧ some k_ ≠ (u7 : Value).ownBlock)) (by exact uR HO_8.out) hg hat); replace HB := zMk (hb); have HO985 := zMk (ho); clear HO982 ho hb hg hat; obtain ⟨Ao27, co27, eo27⟩ := zRs HO_7.out; subst eo27; obtain ⟨Ao28, co28, eo28⟩ := zRs HO985.out; subst eo28)|  ((with_reducible refine gate_callee (f := 67) rfl ?_); refine goesL_ (some 33) rfl rfl Tryd.func67 (by kernel_rfl) rfl #[.slice Ao27 x7_1.length co27, .slice Ao28 y983.length co28] rfl (by (try simp only [zMa, zMc, zMn]); first |  done|  rfl|  (simp only [zLd, zLt]; rfl)) ?_; (with_reducible refine (r1_sum.calls k1 _ _ x7_1 _ _ y983 t986 _ ?side1 ?side2 ?side3 ?side4 A18.out).mono ?_); (case side1 => exact uC (zRr HO_7.out).2.2); (case side2 => exact (zRr HO_7.out).2.1); (case side3 => exact uC (zRr HO985.out).2.2); (case side4 => exact (zRr HO985.out).2.1); rintro e w29 ⟨v987, rfl, ho0, hb⟩; refine ⟨_, rfl, ?_⟩; have HO988 := zMk (zRl (zRw (zRw (zRw (zRw (zRw ho0 (zRt (by exact uR HO_5.out))) (zRt (by exact uR HO_6.out))) (zRt (by exact uR HO_7.out))) (zRt (by exact uR HO_8.out))) (zRt (by exact uR HO985.out))) (zBs (by exact uT HB.out))); replace HO_5 := zMk (zRe (by exact uR HO_5.out) (zRz ho0) hb); replace HO_6 := zMk (zRe (by exact uR HO_6.out) (zRz ho0) hb); replace HO_7 := zMk (zRe (by exact uR HO_7.out) (zRz ho0) hb); replace HO_8 := zMk (zRe (by exact uR HO_8.out) (zRz ho0) hb); replace HO985 := zMk (zRe (by exact uR HO985.out) (zRz ho0) hb); replace HB := zMk (zBt (by exact uT HB.out) hb); (try clear hb); (try clear hb2); (try clear hk); (try clear hi); (try clear ho0))|  ((with_reducible refine gate_builtin (b := .append) (xs := #[.tmp 34, .tmp 35]) rfl ?_); at_builtin; refine Kd.R_append (Kd.int .u8) (w0 := w) w.heap.size rfl (.tmp 34) (.tmp 35) 67 5 (.int .u8 0) 1 rfl Tryd.underlying67 info5 rfl (by decide) (by omega) (.slice Ao24 x8_1.length co24) x8_1 0 [.int .u8 0] (fun k_ => some k_ ≠ (.slice Ao26 t967.length co26 : Value).ownBlock ∧ some k_ ≠ (.slice (some ad976) t973.length co20 : Value).ownBlock ∧ some k_ ≠ (.slice Ao27 x7_1.length co27 : Value).ownBlock ∧ some k_ ≠ (.slice Ao28 y983.length co28 : Value).ownBlock ∧ some k_ ≠ (v987 : Value).ownBlock) (fun _ => False) rfl rfl ?aP (fun _ hk => hk.elim) ?aF ?aO ?aB ?aS ?aL ?_; (case aP => exact rfl); (case aB => exact (by exact uT HB.out)); (case aF => exact (fun k_ hk => ⟨Kd.fresh' (zRt (by exact uR HO_5.out)) k_ hk, Kd.fresh' (zRt (by exact uR HO_6.out)) k_ hk, Kd.fresh' (zRt (by exact uR HO_7.out)) k_ hk, Kd.fresh' (zRt (by exact uR HO985.out)) k_ hk, Kd.fresh' (zRt (by exact uR HO988.out)) k_ hk⟩)); (case aO => exact (by (with_reducible repeat (first |  apply zRa|  apply zRn|  apply zRd)); exact zRm HO_8.out (fun _ hk => ⟨hk.1.1.1, ⟨hk.1.1.2.1, ⟨hk.1.1.2.2, ⟨hk.1.2, hk.2⟩⟩⟩⟩))); (case aS => exact (zBs (by exact uT HB.out))); (case aL => have := LMc19.out; omega); intro v990 w30 ho hb hg hat; rw [← Ny989.out] at ho; replace HO_5 := zMk (Kd.R_after (ok := (fun k_ => some k_ ≠ (.slice (some ad976) t973.length co20 : Value).ownBlock ∧ some k_ ≠ (.slice Ao27 x7_1.length co27 : Value).ownBlock ∧ some k_ ≠ (.slice Ao28 y983.length co28 : Value).ownBlock ∧ some k_ ≠ (v987 : Value).ownBlock)) (by (with_reducible repeat (first |  apply zRa|  apply zRn|  apply zRd)); exact zRm HO_5.out (fun _ hk => ⟨⟨hk.1.1.1, ⟨hk.1.1.2.1, ⟨hk.1.2, hk.2⟩⟩⟩, hk.1.1.2.2⟩)) hg hat); replace HO_6 := zMk (Kd.R_after (ok := (fun k_ => some k_ ≠ (.slice Ao26 t967.length co26 : Value).ownBlock ∧ some k_ ≠ (.slice Ao27 x7_1.length co27 : Value).ownBlock ∧ some k_ ≠ (.slice Ao28 y983.length co28 : Value).ownBlock ∧ some k_ ≠ (v987 : Value).ownBlock)) (by (with_reducible repeat (first |  apply zRa|  apply zRn|  apply zRd)); exact zRm HO_6.out (fun _ hk => ⟨⟨hk.1.1.1, ⟨hk.1.1.2.1, ⟨hk.1.2, hk.2⟩⟩⟩, hk.1.1.2.2⟩)) hg hat); replace HO_7 := zMk (Kd.R_after (ok := (fun k_ => some k_ ≠ (.slice Ao26 t967.length co26 : Value).ownBlock ∧ some k_ ≠ (.slice (some ad976) t973.length co20 : Value).ownBlock ∧ some k_ ≠ (.slice Ao28 y983.length co28 : Value).ownBlock ∧ some k_ ≠ (v987 : Value).ownBlock)) (by (with_reducible repeat (first |  apply zRa|  apply zRn|  apply zRd)); exact zRm HO_7.out (fun _ hk => ⟨⟨hk.1.1.1, ⟨hk.1.1.2.1, ⟨hk.1.2, hk.2⟩⟩⟩, hk.1.1.2.2⟩)) hg hat); replace HO985 := zMk (Kd.R_after (ok := (fun k_ => some k_ ≠ (.slice Ao26 t967.length co26 : Value).ownBlock ∧ some k_ ≠ (.slice (some ad976) t973.length co20 : Value).ownBlock ∧ some k_ ≠ (.slice Ao27 x7_1.length co27 : Value).ownBlock ∧ some k_ ≠ (v987 : Value).ownBlock)) (by (with_reducible repeat (first |  apply zRa|  apply zRn|  apply zRd)); exact zRm HO985.out (fun _ hk => ⟨⟨hk.1.1, ⟨hk.1.2.1, ⟨hk.1.2.2.1, hk.2⟩⟩⟩, hk.1.2.2.2⟩)) hg hat); replace HO988 := zMk (Kd.R_after (ok := (fun k_ => some k_ ≠ (.slice Ao26 t967.length co26 : Value).ownBlock ∧ some k_ ≠ (.slice (some ad976) t973.length co20 : Value).ownBlock ∧ some k_ ≠ (.slice Ao27 x7_1.length co27 : Value).ownBlock ∧ some k_ ≠ (.slice Ao28 y983.length co28 : Value).ownBlock)) (by (with_reducible repeat (first |  apply zRa|  apply zRn|  apply zRd)); exact zRm HO988.out (fun _ hk => ⟨⟨hk.1.1.1.1.2, ⟨hk.1.1.1.2, ⟨hk.1.1.2, hk.2⟩⟩⟩, hk.1.2⟩)) hg hat); replace HB := zMk (hb); have HO991 := zMk (ho); clear HO_8 ho hb hg hat))
      go_roundg k1
      case measure => have := HK1.out; omega
      case rel => exact ⟨(t986), (y989), (wrap64 (x9_1 + 1)), (by first | rfl | (simp; done) | (simp [*]; done)), H', ⟨by have := HK1.out; omega⟩, ⟨by (with_reducible repeat (first | apply zRa | apply zRn | apply zRd)); exact zRm HO_5.out (fun _ hk => ⟨hk.1.1, ⟨hk.1.2.2.2, hk.2⟩⟩)⟩, ⟨by (with_reducible repeat (first | apply zRa | apply zRn | apply zRd)); exact zRm HO_6.out (fun _ hk => ⟨hk.1.1, ⟨hk.1.2.2.2, hk.2⟩⟩)⟩, ⟨by (with_reducible repeat (first | apply zRa | apply zRn | apply zRd)); exact zRm HO988.out (fun _ hk => ⟨hk.1.1, ⟨hk.1.2.1, hk.2⟩⟩)⟩, ⟨by (with_reducible repeat (first | apply zRa | apply zRn | apply zRd)); exact zRm HO991.out (fun _ hk => ⟨hk.1, ⟨hk.2.1, hk.2.2.2.2⟩⟩)⟩, ⟨by exact uT HB.out⟩⟩
    · rw [if_neg c15] at H
      have c15b0 : ((rd t973 x9_1) == 1) = false := beq_eq_false_iff_ne.mpr c15
      have c15b1 : ((rd t973 x9_1) != 1) = true := bne_iff_ne.mpr c15
      by_cases c31 : x8_1.length < 140737488355328
      rotate_left
      · rw [if_neg c31] at H; exact absurd H (by simp)
      rw [if_pos c31] at H
      have LMc31 := zMk c31
      clear c31
      obtain ⟨y992, hy992⟩ : ∃ y_ : List Int, y_ = (x8_1 ++ [0]) := ⟨_, rfl⟩
      replace H : (r1_Mul.l0 k1 t967 t973 x7_1 y992 (wrap64 (x9_1 + 1))) = some r := by first | (rw [hy992]; with_reducible exact H) | (have H2_ := (zOb _ _).symm.trans H; rw [hy992]; with_reducible exact H2_) | (have H2_ := (zOb _ _).symm.trans H; with_reducible exact H2_) | with_reducible exact H | (rw [hy992]; exact H) | exact H
      have Ny992 := zMk hy992
      clear hy992
      have H' := zMk H
      clear H
      obtain ⟨Ao32, co32, eo32⟩ := zRs HO_6.out
      subst eo32
      have p976 : 0 ≤ (x9_1 : Int) := of_decide_eq_true (by first | (with_reducible assumption) | assumption)
      have q976 : x9_1 < (t973.length : Int) := of_decide_eq_true (by first | (with_reducible assumption) | assumption)
      obtain ⟨ad976, e976, hx976_0⟩ := zAi (zRr HO_6.out).2.2 x9_1 p976 q976
      cases e976
      replace p976 := eq_true p976
      replace q976 := eq_true q976
      go_wp2_with (first |  ((with_reducible refine gate_builtin (b := .append) (xs := #[.tmp 34, .tmp 35]) rfl ?_); at_builtin; refine Kd.R_append (Kd.int .u8) (w0 := w) w.heap.size rfl (.tmp 34) (.tmp 35) 67 5 (.int .u8 0) 1 rfl Tryd.underlying67 info5 rfl (by decide) (by omega) u8 x8_1 0 [.int .u8 0] (fun k_ => some k_ ≠ (v968 : Value).ownBlock ∧ some k_ ≠ (.slice (some ad976) t973.length co32 : Value).ownBlock ∧ some k_ ≠ (u7 : Value).ownBlock) (fun _ => False) rfl rfl ?aP (fun _ hk => hk.elim) ?aF ?aO ?aB ?aS ?aL ?_; (case aP => exact rfl); (case aB => exact (by exact uT HB.out)); (case aF => exact (fun k_ hk => ⟨Kd.fresh' (zRt (by exact uR HO_5.out)) k_ hk, Kd.fresh' (zRt (by exact uR HO_6.out)) k_ hk, Kd.fresh' (zRt (by exact uR HO_7.out)) k_ hk⟩)); (case aO => exact (by exact uR HO_8.out)); (case aS => exact (zBs (by exact uT HB.out))); (case aL => have := LMc31.out; omega); intro v993 w33 ho hb hg hat; rw [← Ny992.out] at ho; replace HO_5 := zMk (Kd.R_after (ok := (fun k_ => some k_ ≠ (.slice (some ad976) t973.length co32 : Value).ownBlock ∧ some k_ ≠ (u7 : Value).ownBlock)) (by (with_reducible repeat (first |  apply zRa|  apply zRn|  apply zRd)); exact zRm HO_5.out (fun _ hk => ⟨⟨hk.1, hk.2.1⟩, hk.2.2⟩)) hg hat); replace HO_6 := zMk (Kd.R_after (ok := (fun k_ => some k_ ≠ (v968 : Value).ownBlock ∧ some k_ ≠ (u7 : Value).ownBlock)) (by (with_reducible repeat (first |  apply zRa|  apply zRn|  apply zRd)); exact zRm HO_6.out (fun _ hk => ⟨⟨hk.1, hk.2.1⟩, hk.2.2⟩)) hg hat); replace HO_7 := zMk (Kd.R_after (ok := (fun k_ => some k_ ≠ (v968 : Value).ownBlock ∧ some k_ ≠ (.slice (some ad976) t973.length co32 : Value).ownBlock)) (by (with_reducible repeat (first |  apply zRa|  apply zRn|  apply zRd)); exact zRm HO_7.out (fun _ hk => ⟨⟨hk.1, hk.2.1⟩, hk.2.2⟩)) hg hat); replace HB := zMk (hb); have HO994 := zMk (ho); clear HO_8 ho hb hg hat))
      go_roundg k1
      case measure => have := HK1.out; omega
      case rel => exact ⟨(x7_1), (y992), (wrap64 (x9_1 + 1)), (by first | rfl | (simp; done) | (simp [*]; done)), H', ⟨by have := HK1.out; omega⟩, ⟨by (with_reducible repeat (first | apply zRa | apply zRn | apply zRd)); exact zRm HO_5.out (fun _ hk => ⟨hk.1.1, ⟨hk.1.2, hk.2⟩⟩)⟩, ⟨by (with_reducible repeat (first | apply zRa | apply zRn | apply zRd)); exact zRm HO_6.out (fun _ hk => ⟨hk.1.1, ⟨hk.1.2, hk.2⟩⟩)⟩, ⟨by (with_reducible repeat (first | apply zRa | apply zRn | apply zRd)); exact zRm HO_7.out (fun _ hk => ⟨hk.1.1, ⟨hk.1.2, hk.2⟩⟩)⟩, ⟨by exact uR HO994.out⟩, ⟨by exact uT HB.out⟩⟩
  · rw [if_neg c13] at H
    have c13b0 : decide (x9_1 < (t973.length : Int)) = false := decide_eq_false c13
    clear c13
    replace H := bnd H
    obtain ⟨t995, A340, H⟩ := H
    have A34 := zMk A340
    clear A340
    obtain rfl := zOi H
    obtain ⟨Ao35, co35, eo35⟩ := zRs HO_6.out
    subst eo35
    obtain ⟨Ao36, co36, eo36⟩ := zRs HO_7.out
    subst eo36
    go_wp2_with (first |  ((with_reducible refine gate_callee (f := 65) rfl ?_); refine goesL_ (some 38) rfl rfl Tryd.func65 (by kernel_rfl) rfl #[.slice Ao36 x7_1.length co36] rfl (by (try simp only [zMa, zMc, zMn]); first |  done|  rfl|  (simp only [zLd, zLt]; rfl)) ?_; (with_reducible refine (r1_limbs.calls k1 _ _ x7_1 t995 _ ?side1 ?side2 A34.out).mono ?_); (case side1 => exact uC (zRr HO_7.out).2.2); (case side2 => exact (zRr HO_7.out).2.1); rintro e w37 ⟨v996, rfl, ho0, hb⟩; refine ⟨_, rfl, ?_⟩; replace HO_5 := zMk (zRb (by exact uR HO_5.out) hb); replace HO_6 := zMk (zRb (by exact uR HO_6.out) hb); replace HO_7 := zMk (zRb (by exact uR HO_7.out) hb); replace HO_8 := zMk (zRb (by exact uR HO_8.out) hb); have HO997 := zMk (zRl ho0 (zBs (by exact uT HB.out))); replace HB := zMk (zBt (by exact uT HB.out) hb); (try clear hb); (try clear hb2); (try clear hk); (try clear hi); (try clear ho0)))
    go_ret
    exact ⟨_, by first | rfl | (simp [errW_none, errW_some] <;> rfl) | (simp [*, errW_none, errW_some] <;> rfl), by exact uR HO997.out, by exact uT HB.out⟩


mutual
def r1_Parse.j0 : Nat → ByteArray → Bool → Option (List Int × Int)
  | 0, _, _ => none
  | k + 1, x0, x18 => if x18 = true then (some (([] : List Int), 2)) else (r1_Parse.l0 k x0 ([] : List Int) 0)
def r1_Parse.l0 : Nat → ByteArray → List Int → Int → Option (List Int × Int)
  | 0, _, _, _ => none
  | k + 1, x0, x4, x5 => if x5 < (x0.size : Int) then (if 0 ≤ x5 then (if (bt x0 x5) < 48 then (r1_Parse.j2 k x0 x4 x5 true) else (r1_Parse.j2 k x0 x4 x5 (decide ((bt x0 x5) > 57)))) else (none)) else (some (x4, 0))
def r1_Parse.j2 : Nat → ByteArray → List Int → Int → Bool → Option (List Int × Int)
  | 0, _, _, _, _ => none
  | k + 1, x0, x4, x5, x34 => if x34 = true then (some (([] : List Int), 2)) else ((r1_Mul.f k x4 (([10] : List Int))).bind fun t1097 => (if 0 ≤ x5 then (if x5 < (x0.size : Int) then ((r1_Add.f k t1097 (([((bt x0 x5) - 48) % 256] : List Int))).bind fun t1103 => (r1_Parse.l0 k x0 t1103 (wrap64 (x5 + 1)))) else (none)) else (none)))
end
def r1_Parse.f (k : Nat) (a0 : ByteArray) : Option (List Int × Int) := if (a0.size : Int) = 0 then (r1_Parse.j0 k a0 true) else (if (a0.size : Int) > 1 then (if 0 < (a0.size : Int) then (r1_Parse.j0 k a0 ((bt a0 0) == 48)) else (none)) else (r1_Parse.j0 k a0 false))
def r1_Parse.T9 : Bool × List (List Nat × List Nat) := (true, [([], []), ([], []), ([0, 1], [0, 1]), ([], []), ([], []), ([3, 4], [3, 4]), ([5], [5]), ([6], [6]), ([7], [7]), ([2, 8, 2], [2, 8]), ([9, 9, 0, 1, 2, 3, 4, 5, 6, 7, 8, 9], [0, 9])])
def r1_Parse.B9 : List Nat := [0, 0, 3, 0, 0, 24, 56, 120, 248, 511, 1023]
theorem r1_Parse.tab9 : rtab .any (opsOf Tryd.f53 9) = r1_Parse.T9 := by kernel_rfl
theorem r1_Parse.bits9 : waitsOk r1_Parse.T9.2 r1_Parse.B9 = true := by kernel_rfl
set_option maxHeartbeats 8000000 in
set_option maxRecDepth 100000 in
theorem r1_Parse.calls (k : Nat) (a0 : ByteArray) (r1 : List Int) (r2 : Int) (w : World) (h : r1_Parse.f k a0 = some (r1, r2)) :
    Calls Tryd.prog 53 #[.string a0] w fun e w' => ∃ v0_ : Value, e = .returned (.tuple #[v0_, .int .i64 r2]) ∧ Kd.R (Kd.int .u32) 58 w' w.heap.size (fun _ => True) v0_ r1 ∧ Below w.heap.size w w' := by
  have HB := zMk (Below.refl w.heap.size w)
  have H : (if (a0.size : Int) = 0 then (r1_Parse.j0 k a0 true) else (if (a0.size : Int) > 1 then (if 0 < (a0.size : Int) then (r1_Parse.j0 k a0 ((bt a0 0) == 48)) else (none)) else (r1_Parse.j0 k a0 false))) = some (r1, r2) := h
  clear h
  have HC2 := zMk H
  clear H
  go_enter Tryd.func53, Tryd.ntmps53
  go_upto_region 1 with (fail)
  go_cut [18] (fun v18 wc => ∃ (kq : Nat) (x18_1 : Bool), v18 = .bool x18_1 ∧ Aside0 (r1_Parse.j0 kq a0 x18_1 = some (r1, r2)) ∧ Aside0 (kq ≤ k) ∧ Aside0 (Below w.heap.size w wc))
  case first =>
    have H := HC2.out
    clear HC2
    by_cases c3 : (a0.size : Int) = 0
    · rw [if_pos c3] at H
      have c3b0 : ((a0.size : Int) == 0) = true := beq_iff_eq.mpr c3
      have c3b1 : ((a0.size : Int) != 0) = false := bne_eq_false_iff_eq.mpr c3
      clear c3
      (first | rw [c3b0] | (simp only [i64_w, i32_w]; rw [c3b0]) | rw [c3b1] | skip)
      have H' := zMk H
      clear H
      go_wp2
      go_meet
      case rel => exact ⟨_, (true), (by first | rfl | (simp; done) | (simp [*]; done)), H', ⟨by first | omega | exact Nat.le_refl _⟩, ⟨by exact uT HB.out⟩⟩
    · rw [if_neg c3] at H
      have c3b0 : ((a0.size : Int) == 0) = false := beq_eq_false_iff_ne.mpr c3
      have c3b1 : ((a0.size : Int) != 0) = true := bne_iff_ne.mpr c3
      (first | rw [c3b0] | (simp only [i64_w, i32_w]; rw [c3b0]) | rw [c3b1] | skip)
      by_cases c4 : (a0.size : Int) > 1
      · rw [if_pos c4] at H
        have c4b0 : decide (1 < (a0.size : Int)) = true := decide_eq_true c4
        have c4b1 : decide (1 < a0.size) = true := decide_eq_true (by omega)
        clear c4
        by_cases c5 : 0 < (a0.size : Int)
        rotate_left
        · rw [if_neg c5] at H; exact absurd H (by simp)
        rw [if_pos c5] at H
        have c5b0 : decide (0 < (a0.size : Int)) = true := decide_eq_true c5
        have c5b1 : decide (0 < a0.size) = true := decide_eq_true (by omega)
        clear c5
        have H' := zMk H
        clear H
        have p6 : 0 ≤ (0 : Int) := (by omega)
        have q6 : 0 < a0.size := (by have : (0 : Int) < (a0.size : Int) := of_decide_eq_true (by first | (with_reducible assumption) | assumption); omega)
        have hx6 : ∀ h : 0 < a0.size, ((a0[0]'h).toNat : Int) = bt a0 0 := bt_at a0 0
        clear p6
        have qi6 : (0 < (a0.size : Int)) = True := eq_true (of_decide_eq_true (by first | (with_reducible assumption) | assumption))
        replace q6 := eq_true q6
        go_wp2
        go_meet
        case rel => exact ⟨_, (((bt a0 0) == 48)), (by first | rfl | (simp; done) | (simp [*]; done)), H', ⟨by first | omega | exact Nat.le_refl _⟩, ⟨by exact uT HB.out⟩⟩
      · rw [if_neg c4] at H
        have c4b0 : decide (1 < (a0.size : Int)) = false := decide_eq_false c4
        have c4b1 : decide (1 < a0.size) = false := decide_eq_false (by omega)
        clear c4
        have H' := zMk H
        clear H
        go_wp2
        go_meet
        case rel => exact ⟨_, (false), (by first | rfl | (simp; done) | (simp [*]; done)), H', ⟨by first | omega | exact Nat.le_refl _⟩, ⟨by exact uT HB.out⟩⟩
  case rest =>
    clear HC2
    obtain ⟨kq, x18_1, rfl, HA, HJ1, HB⟩ := hcut
    rcases kq with _ | kj1
    · exact absurd HA.out (by simp [r1_Parse.j0])
    have H := HA.out
    clear HA
    simp only [r1_Parse.j0] at H
    by_cases c7 : x18_1 = true
    · subst c7
      have H1 : (some (([] : List Int), 2)) = some (r1, r2) := by rw [if_pos rfl] at H; exact H
      clear H
      have H := H1
      clear H1
      simp only [Option.some.injEq, Prod.mk.injEq] at H
      obtain ⟨rfl, rfl⟩ := H
      go_wp2
      go_ret2
      exact ⟨_, by first | rfl | (simp [errW_none, errW_some] <;> rfl) | (simp [*, errW_none, errW_some] <;> rfl), by first | exact Kd.R_nil _ _ _ _ _ | exact Kd.N_nil _ _ _ _ _ | exact Kd.V_nil _ _ _ _ _ | exact Kd.Q_nil _ _ _ _ _ | exact Kd.S_nil _ _ _ _ _, by exact uT HB.out⟩
    · replace c7 := Bool.eq_false_iff.mpr c7
      subst c7
      have H1 : (r1_Parse.l0 kj1 a0 ([] : List Int) 0) = some (r1, r2) := by rw [if_neg (show ¬ (false = true) by decide)] at H; exact H
      clear H
      have H := H1
      clear H1
      have H' := zMk H
      clear H
      go_wp2
      go_loopg [4, 5] kj1 (fun kq v4 v5 w' => ∃ (x4_2 : List Int) (x5_2 : Int), v5 = .int .i64 x5_2 ∧ Aside0 (r1_Parse.l0 kq a0 x4_2 x5_2 = some (r1, r2)) ∧ Aside0 (kq ≤ kj1) ∧ Aside0 (Kd.R (Kd.int .u32) 58 w' w.heap.size (fun _ => True) v4 x4_2) ∧ Aside0 (Below w.heap.size w w'))
      case atStart => exact ⟨(([] : List Int)), (0), (by first | rfl | (simp; done) | (simp [*]; done)), H', ⟨Nat.le_refl _⟩, ⟨by first | exact Kd.R_nil _ _ _ _ _ | exact Kd.N_nil _ _ _ _ _ | exact Kd.V_nil _ _ _ _ _ | exact Kd.Q_nil _ _ _ _ _ | exact Kd.S_nil _ _ _ _ _⟩, ⟨by exact uT HB.out⟩⟩
      clear H'
      obtain ⟨x4_2, x5_2, rfl, HA, HK2, HO_4, HB⟩ := hrel
      rcases gk with _ | k2
      · exact absurd HA.out (by simp [r1_Parse.l0])
      have H := HA.out
      clear HA
      simp only [r1_Parse.l0] at H
      by_cases c8 : x5_2 < (a0.size : Int)
      · rw [if_pos c8] at H
        have c8b0 : decide (x5_2 < (a0.size : Int)) = true := decide_eq_true c8
        clear c8
        have HC9 := zMk H
        clear H
        go_upto_region 7 with (fail)
        go_cut [34] (fun v34 wc => ∃ (kq : Nat) (x34_8 : Bool), v34 = .bool x34_8 ∧ Aside0 (r1_Parse.j2 kq a0 x4_2 x5_2 x34_8 = some (r1, r2)) ∧ Aside0 (kq ≤ k2) ∧ Aside0 (Kd.R (Kd.int .u32) 58 wc w.heap.size (fun _ => True) u4 x4_2) ∧ Aside0 (Below w.heap.size w wc))
        case first =>
          have H := HC9.out
          clear HC9
          by_cases c10 : 0 ≤ x5_2
          rotate_left
          · rw [if_neg c10] at H; exact absurd H (by simp)
          rw [if_pos c10] at H
          have c10b0 : decide (0 ≤ x5_2) = true := decide_eq_true c10
          clear c10
          (first | rw [c10b0] | (simp only [i64_w, i32_w]; rw [c10b0]) | rw [c10b1] | skip)
          by_cases c12 : (bt a0 x5_2) < 48
          · rw [if_pos c12] at H
            have c12b0 : decide ((bt a0 x5_2) < 48) = true := decide_eq_true c12
            clear c12
            have H' := zMk H
            clear H
            have p11 : 0 ≤ (x5_2 : Int) := of_decide_eq_true (by first | (with_reducible assumption) | assumption)
            have q11 : x5_2 < (a0.size : Int) := of_decide_eq_true (by first | (with_reducible assumption) | assumption)
            have hx11 := bt_at a0 x5_2
            replace p11 := eq_true p11
            replace q11 := eq_true q11
            go_wp2
            go_meet
            case rel => exact ⟨_, (true), (by first | rfl | (simp; done) | (simp [*]; done)), H', ⟨by have := HJ1.out; have := HK2.out; first | omega | exact Nat.le_refl _⟩, ⟨by exact uR HO_4.out⟩, ⟨by exact uT HB.out⟩⟩
          · rw [if_neg c12] at H
            have c12b0 : decide ((bt a0 x5_2) < 48) = false := decide_eq_false c12
            clear c12
            have H' := zMk H
            clear H
            have p11 : 0 ≤ (x5_2 : Int) := of_decide_eq_true (by first | (with_reducible assumption) | assumption)
            have q11 : x5_2 < (a0.size : Int) := of_decide_eq_true (by first | (with_reducible assumption) | assumption)
            have hx11 := bt_at a0 x5_2
            replace p11 := eq_true p11
            replace q11 := eq_true q11
            have p13 : 0 ≤ (x5_2 : Int) := of_decide_eq_true (by first | (with_reducible assumption) | assumption)
            have q13 : x5_2 < (a0.size : Int) := of_decide_eq_true (by first | (with_reducible assumption) | assumption)
            have hx13 := bt_at a0 x5_2
            replace p13 := eq_true p13
            replace q13 := eq_true q13
            go_wp2
            go_meet
            case rel => exact ⟨_, (decide ((bt a0 x5_2) > 57)), (by first | rfl | (simp; done) | (simp [*]; done)), H', ⟨by have := HJ1.out; have := HK2.out; first | omega | exact Nat.le_refl _⟩, ⟨by exact uR HO_4.out⟩, ⟨by exact uT HB.out⟩⟩
        case rest =>
          clear HC9
          obtain ⟨kq, x34_8, rfl, HA, HJ8, HO_4, HB⟩ := hcut
          rcases kq with _ | kj8
          · exact absurd HA.out (by simp [r1_Parse.j2])
          have H := HA.out
          clear HA
          simp only [r1_Parse.j2] at H
          by_cases c14 : x34_8 = true
          · subst c14
            have H1 : (some (([] : List Int), 2)) = some (r1, r2) := by rw [if_pos rfl] at H; exact H
            clear H
            have H := H1
            clear H1
            simp only [Option.some.injEq, Prod.mk.injEq] at H
            obtain ⟨rfl, rfl⟩ := H
            go_wp2
            go_ret2
            exact ⟨_, by first | rfl | (simp [errW_none, errW_some] <;> rfl) | (simp [*, errW_none, errW_some] <;> rfl), by first | exact Kd.R_nil _ _ _ _ _ | exact Kd.N_nil _ _ _ _ _ | exact Kd.V_nil _ _ _ _ _ | exact Kd.Q_nil _ _ _ _ _ | exact Kd.S_nil _ _ _ _ _, by exact uT HB.out⟩
          · replace c14 := Bool.eq_false_iff.mpr c14
            subst c14
            have H1 : ((r1_Mul.f kj8 x4_2 (([10] : List Int))).bind fun t1097 => (if 0 ≤ x5_2 then (if x5_2 < (a0.size : Int) then ((r1_Add.f kj8 t1097 (([((bt a0 x5_2) - 48) % 256] : List Int))).bind fun t1103 => (r1_Parse.l0 kj8 a0 t1103 (wrap64 (x5_2 + 1)))) else (none)) else (none))) = some (r1, r2) := by rw [if_neg (show ¬ (false = true) by decide)] at H; exact H
            clear H
            have H := H1
            clear H1
            obtain ⟨y1094, hy1094⟩ : ∃ y_ : List Int, y_ = (([10] : List Int)) := ⟨_, rfl⟩
            replace H : ((r1_Mul.f kj8 x4_2 y1094).bind fun t1097 => (if 0 ≤ x5_2 then (if x5_2 < (a0.size : Int) then ((r1_Add.f kj8 t1097 (([((bt a0 x5_2) - 48) % 256] : List Int))).bind fun t1103 => (r1_Parse.l0 kj8 a0 t1103 (wrap64 (x5_2 + 1)))) else (none)) else (none))) = some (r1, r2) := by first | (rw [hy1094]; with_reducible exact H) | (have H2_ := (zOb _ _).symm.trans H; rw [hy1094]; with_reducible exact H2_) | (have H2_ := (zOb _ _).symm.trans H; with_reducible exact H2_) | with_reducible exact H | (rw [hy1094]; exact H) | exact H
            have Ny1094 := zMk hy1094
            clear hy1094
            replace H := bnd H
            obtain ⟨t1097, A150, H⟩ := H
            have A15 := zMk A150
            clear A150
            by_cases c16 : 0 ≤ x5_2
            rotate_left
            · rw [if_neg c16] at H; exact absurd H (by simp)
            rw [if_pos c16] at H
            have c16b0 : decide (0 ≤ x5_2) = true := decide_eq_true c16
            clear c16
            by_cases c17 : x5_2 < (a0.size : Int)
            rotate_left
            · rw [if_neg c17] at H; exact absurd H (by simp)
            rw [if_pos c17] at H
            have c17b0 : decide (x5_2 < (a0.size : Int)) = true := decide_eq_true c17
            clear c17
            obtain ⟨y1100, hy1100⟩ : ∃ y_ : List Int, y_ = (([((bt a0 x5_2) - 48) % 256] : List Int)) := ⟨_, rfl⟩
            replace H : ((r1_Add.f kj8 t1097 y1100).bind fun t1103 => (r1_Parse.l0 kj8 a0 t1103 (wrap64 (x5_2 + 1)))) = some (r1, r2) := by first | (rw [hy1100]; with_reducible exact H) | (have H2_ := (zOb _ _).symm.trans H; rw [hy1100]; with_reducible exact H2_) | (have H2_ := (zOb _ _).symm.trans H; with_reducible exact H2_) | with_reducible exact H | (rw [hy1100]; exact H) | exact H
            have Ny1100 := zMk hy1100
            clear hy1100
            replace H := bnd H
            obtain ⟨t1103, A190, H⟩ := H
            have A19 := zMk A190
            clear A190
            have H' := zMk H
            clear H
            obtain ⟨Ao20, co20, eo20⟩ := zRs HO_4.out
            subst eo20
            try go_wp2
            replace HO_4 := zMk (zRd HO_4.out)
            replace HB := zMk (zBd HB.out)
            have p18 : 0 ≤ (x5_2 : Int) := of_decide_eq_true (by first | (with_reducible assumption) | assumption)
            have q18 : x5_2 < (a0.size : Int) := of_decide_eq_true (by first | (with_reducible assumption) | assumption)
            have hx18 := bt_at a0 x5_2
            replace p18 := eq_true p18
            replace q18 := eq_true q18
            refine start_ (n := 11) (S := fun w' => True) (ds := []) #[false, false, false, false, false, false, false, false, false, false, false] (by kernel_rfl) rfl rfl trivial (fun hHeld => ?_); refine with_tabW r1_Parse.tab9 r1_Parse.bits9 (fun HT_ HW_ => ?_)
            generalize wc.drew = w21 at HO_4 HB hHeld ⊢
            refine pure_ (i := 0) (N := some 35) (v := ?_) (a' := ?_) #[true, false, false, false, false, false, false, false, false, false, false] rfl rfl (any_of HT_.out (by kernel_rfl)) (fun _ _ _ h => h) (Or.inl ⟨by rfl, ?_⟩) ?_ ?_
            rotate_left
            · intro w'
              go_simp
              with_reducible rfl
            rotate_left
            · simp only [Act.put, zSa, zSb, zSc, i64_w, i32_w]
              rfl
            refine pure_ (i := 3) (N := some 38) (v := ?_) (a' := ?_) #[true, false, false, true, false, false, false, false, false, false, false] rfl rfl (any_of HT_.out (by kernel_rfl)) (fun _ _ _ h => h) (Or.inl ⟨by rfl, ?_⟩) ?_ ?_
            rotate_left
            · intro w'
              go_simp
              with_reducible rfl
            rotate_left
            · simp only [Act.put, zSa, zSb, zSc, i64_w, i32_w]
              rfl
            refine pure_ (i := 4) (N := some 39) (v := ?_) (a' := ?_) #[true, false, false, true, true, false, false, false, false, false, false] rfl rfl (any_of HT_.out (by kernel_rfl)) (fun _ _ _ h => h) (Or.inl ⟨by rfl, ?_⟩) ?_ ?_
            rotate_left
            · intro w'
              go_simp
              with_reducible rfl
            rotate_left
            · simp only [Act.put, zSa, zSb, zSc, i64_w, i32_w]
              rfl
            refine take_ (i := 5) (N := some 40) (v := ?_) (a' := ?_) #[true, false, false, true, true, true, false, false, false, false, false] rfl rfl (take_ofW HT_.out HW_.out (by kernel_rfl)) (fun _ _ _ h => h) (Or.inl ⟨by rfl, ?_⟩) hHeld ?_ ?_
            rotate_left
            · intro w' _
              go_simp
              with_reducible rfl
            rotate_left
            · simp only [Act.put, zSa, zSb, zSc, i64_w, i32_w]
              rfl
            refine pure_ (i := 6) (N := some 41) (v := ?_) (a' := ?_) #[true, false, false, true, true, true, true, false, false, false, false] rfl rfl (any_of HT_.out (by kernel_rfl)) (fun _ _ _ h => h) (Or.inl ⟨by rfl, ?_⟩) ?_ ?_
            rotate_left
            · intro w'
              go_simp
              with_reducible rfl
            rotate_left
            · simp only [Act.put, zSa, zSb, zSc, i64_w, i32_w]
              rfl
            refine pure_ (i := 7) (N := some 42) (v := ?_) (a' := ?_) #[true, false, false, true, true, true, true, true, false, false, false] rfl rfl (any_of HT_.out (by kernel_rfl)) (fun _ _ _ h => h) (Or.inl ⟨by rfl, ?_⟩) ?_ ?_
            rotate_left
            · intro w'
              go_simp
              with_reducible rfl
            rotate_left
            · simp only [Act.put, zSa, zSb, zSc, i64_w, i32_w]
              rfl
            refine join_ (σ := Value × Value × Value) 2 #[true, true, true, true, true, true, true, true, true, false, false] (fun s_ => [(36, s_.1), (37, s_.2.1), (43, s_.2.2)]) (fun s_ w' => (Kd.R (Kd.int .u32) 58 w' w.heap.size (fun k_ => some k_ ≠ (s_.2.1 : Value).ownBlock ∧ some k_ ≠ (s_.2.2 : Value).ownBlock ∧ some k_ ≠ (.slice Ao20 x4_2.length co20 : Value).ownBlock) s_.1 y1094) ∧ (Kd.R (Kd.int .u32) 58 w' w.heap.size (fun k_ => some k_ ≠ (s_.1 : Value).ownBlock ∧ some k_ ≠ (s_.2.2 : Value).ownBlock ∧ some k_ ≠ (.slice Ao20 x4_2.length co20 : Value).ownBlock) s_.2.1 t1097) ∧ (Kd.R (Kd.int .u32) 58 w' w.heap.size (fun k_ => some k_ ≠ (s_.1 : Value).ownBlock ∧ some k_ ≠ (s_.2.1 : Value).ownBlock ∧ some k_ ≠ (.slice Ao20 x4_2.length co20 : Value).ownBlock) s_.2.2 y1100) ∧ (Kd.R (Kd.int .u32) 58 w' w.heap.size (fun k_ => some k_ ≠ (s_.1 : Value).ownBlock ∧ some k_ ≠ (s_.2.1 : Value).ownBlock ∧ some k_ ≠ (s_.2.2 : Value).ownBlock) (.slice Ao20 x4_2.length co20) x4_2) ∧ (Below w.heap.size w w')) ?_ ?_
            rotate_left
            · intro hCont
              refine two_ (i := 1) (j := 8) (Ni := some 36) (Nj := some 43) #[true, true, false, true, true, true, true, true, false, false, false] #[true, false, false, true, true, true, true, true, true, false, false] rfl rfl rfl rfl (two_of HT_.out (by kernel_rfl)) (by decide) (by decide) (fun K hK => ?_) (fun K hK => ?_)
              · skip
                refine Kd.R_lit_step (Kd.int .u32) _ 58 ?hg (N := 36) ?hd (xs := ([10] : List Int)) (inner := [.int .u32 10]) (ok := fun _ => True) (okp := fun _ => True) ?hr ?hp (fun _ hk => hk) trivial (Below.refl _ _) (Nat.le_refl _) (by simp) ?_; (case hd => rfl); (case hg => rfl); (case hr => first | (go_simp; done) | (go_simp; rfl) | (go_simp; rw [show ∀ x : Int, IntKind.u32.wrap (IntKind.u8.wrap x) = x % 256 from fun x => (by show (x % 256) % 4294967296 = x % 256; omega)])); (case hp => exact (Reps.one (show Kd.M (Kd.int .u32) _ _ _ 10 [.int .u32 10] from rfl) (Reps.none _ _)))
                intro v1095 w22 ho23 hb hg_ hnew_
                clear hg_ hnew_
                (first | rw [← Ny1094.out] at ho23 | (simp only [Int.reduceToNat] at ho23; rw [← Ny1094.out] at ho23))
                have HO1096 := zMk (zRl (zRw ho23 (zRt (by exact uR HO_4.out))) (zBs (by exact uT HB.out)))
                replace HO_4 := zMk (zRe (by exact uR HO_4.out) (zRz ho23) hb)
                replace HB := zMk (zBt (by exact uT HB.out) hb)
                clear hb ho23
                obtain ⟨Ao24, co24, eo24⟩ := zRs HO1096.out
                (first |  subst eo24|  (injection eo24 with f1_ f2_ f3_; have f4_ := f1_.symm; have f5_ := f3_.symm; clear f1_ f2_ f3_; subst f4_; subst f5_))
                refine hK.out _ _ trivial (fun hHeld => ?_)
                clear hK K
                refine norm_ (a' := ?_) ?_ ?_
                rotate_left
                · show Act.put _ (some 36) _ = _
                  simp only [Act.put, zSa, zSb, zSc, i64_w, i32_w]
                  rfl
                refine two_ (i := 2) (j := 8) (Ni := some 37) (Nj := some 43) #[true, true, true, true, true, true, true, true, false, false, false] #[true, true, false, true, true, true, true, true, true, false, false] rfl rfl rfl rfl (two_of HT_.out (by kernel_rfl)) (by decide) (by decide) (fun K hK => ?_) (fun K hK => ?_)
                · skip
                  refine goes_ Tryd.func46 (by kernel_rfl) rfl #[.slice Ao20 x4_2.length co20, .slice Ao24 y1094.length co24] (by rfl) rfl rfl (by (try simp only [zMa, zMc, zMn]); first | done | rfl | (simp only [zLd, zLt]; rfl)) ?_
                  with_reducible refine (r1_Mul.calls kj8 _ _ x4_2 _ _ y1094 t1097 _ ?side1 ?side2 ?side3 ?side4 A15.out).mono ?_
                  (case side1 => exact uC (zRr HO_4.out).2.2)
                  (case side2 => exact (zRr HO_4.out).2.1)
                  (case side3 => exact uC (zRr HO1096.out).2.2)
                  (case side4 => exact (zRr HO1096.out).2.1)
                  rintro e w25 ⟨v1098, rfl, ho0, hb⟩
                  refine ⟨_, rfl, ?_⟩
                  have HO1099 := zMk (zRl (zRw (zRw ho0 (zRt (by exact uR HO_4.out))) (zRt (by exact uR HO1096.out))) (zBs (by exact uT HB.out)))
                  replace HO_4 := zMk (zRe (by exact uR HO_4.out) (zRz ho0) hb)
                  replace HO1096 := zMk (zRe (by exact uR HO1096.out) (zRz ho0) hb)
                  replace HB := zMk (zBt (by exact uT HB.out) hb)
                  (try clear hb)
                  (try clear hb2)
                  (try clear hk)
                  (try clear hi)
                  (try clear ho0)
                  refine hK.out _ _ trivial (fun hHeld => ?_)
                  clear hK K
                  refine norm_ (a' := ?_) ?_ ?_
                  rotate_left
                  · show Act.put _ (some 37) _ = _
                    simp only [Act.put, zSa, zSb, zSc, i64_w, i32_w]
                    rfl
                  refine one_ (i := 8) (N := some 43) #[true, true, true, true, true, true, true, true, true, false, false] rfl rfl (one_of HT_.out (by kernel_rfl)) (by decide) (fun K hK => ?_)
                  refine Kd.R_lit_step (Kd.int .u32) _ 58 ?hg (N := 43) ?hd (xs := ([((bt a0 x5_2) - 48) % 256] : List Int)) (inner := [.int .u32 (((bt a0 x5_2) - 48) % 256)]) (ok := fun _ => True) (okp := fun _ => True) ?hr ?hp (fun _ hk => hk) trivial (Below.refl _ _) (Nat.le_refl _) (by simp) ?_; (case hd => rfl); (case hg => rfl); (case hr => first | (go_simp; done) | (go_simp; rfl) | (go_simp; rw [show ∀ x : Int, IntKind.u32.wrap (IntKind.u8.wrap x) = x % 256 from fun x => (by show (x % 256) % 4294967296 = x % 256; omega)])); (case hp => exact (Reps.one (show Kd.M (Kd.int .u32) _ _ _ (((bt a0 x5_2) - 48) % 256) [.int .u32 (((bt a0 x5_2) - 48) % 256)] from rfl) (Reps.none _ _)))
                  intro v1101 w26 ho27 hb hg_ hnew_
                  clear hg_ hnew_
                  (first | rw [← Ny1100.out] at ho27 | (simp only [Int.reduceToNat] at ho27; rw [← Ny1100.out] at ho27))
                  have HO1102 := zMk (zRl (zRw (zRw (zRw ho27 (zRt (by exact uR HO_4.out))) (zRt (by exact uR HO1096.out))) (zRt (by exact uR HO1099.out))) (zBs (by exact uT HB.out)))
                  replace HO_4 := zMk (zRe (by exact uR HO_4.out) (zRz ho27) hb)
                  replace HO1096 := zMk (zRe (by exact uR HO1096.out) (zRz ho27) hb)
                  replace HO1099 := zMk (zRe (by exact uR HO1099.out) (zRz ho27) hb)
                  replace HB := zMk (zBt (by exact uT HB.out) hb)
                  clear hb ho27
                  refine hK.out _ _ trivial (fun hHeld => ?_)
                  clear hK K
                  refine norm_ (a' := ?_) ?_ ?_
                  rotate_left
                  · show Act.put _ (some 43) _ = _
                    simp only [Act.put, zSa, zSb, zSc, i64_w, i32_w]
                    rfl
                  exact norm_ (by simp only [putAll, Act.put, zSa, zSb, zSc]) (hCont (.slice Ao24 y1094.length co24, v1098, v1101) _ ⟨(by (with_reducible repeat (first | apply zRa | apply zRn | apply zRd)); exact zRm HO1096.out (fun _ hk => ⟨hk.1.2, ⟨hk.2, hk.1.1.2⟩⟩)), (by (with_reducible repeat (first | apply zRa | apply zRn | apply zRd)); exact zRm HO1099.out (fun _ hk => ⟨hk.1.2, ⟨hk.2, hk.1.1.2⟩⟩)), (by (with_reducible repeat (first | apply zRa | apply zRn | apply zRd)); exact zRm HO1102.out (fun _ hk => ⟨hk.1.2, ⟨hk.2, hk.1.1.2⟩⟩)), (by (with_reducible repeat (first | apply zRa | apply zRn | apply zRd)); exact zRm HO_4.out (fun _ hk => ⟨hk.1.1.2, ⟨hk.1.2, hk.2⟩⟩)), (by exact uT HB.out)⟩)
                · skip
                  refine Kd.R_lit_step (Kd.int .u32) _ 58 ?hg (N := 43) ?hd (xs := ([((bt a0 x5_2) - 48) % 256] : List Int)) (inner := [.int .u32 (((bt a0 x5_2) - 48) % 256)]) (ok := fun _ => True) (okp := fun _ => True) ?hr ?hp (fun _ hk => hk) trivial (Below.refl _ _) (Nat.le_refl _) (by simp) ?_; (case hd => rfl); (case hg => rfl); (case hr => first | (go_simp; done) | (go_simp; rfl) | (go_simp; rw [show ∀ x : Int, IntKind.u32.wrap (IntKind.u8.wrap x) = x % 256 from fun x => (by show (x % 256) % 4294967296 = x % 256; omega)])); (case hp => exact (Reps.one (show Kd.M (Kd.int .u32) _ _ _ (((bt a0 x5_2) - 48) % 256) [.int .u32 (((bt a0 x5_2) - 48) % 256)] from rfl) (Reps.none _ _)))
                  intro v1101 w24 ho25 hb hg_ hnew_
                  clear hg_ hnew_
                  (first | rw [← Ny1100.out] at ho25 | (simp only [Int.reduceToNat] at ho25; rw [← Ny1100.out] at ho25))
                  have HO1102 := zMk (zRl (zRw (zRw ho25 (zRt (by exact uR HO_4.out))) (zRt (by exact uR HO1096.out))) (zBs (by exact uT HB.out)))
                  replace HO_4 := zMk (zRe (by exact uR HO_4.out) (zRz ho25) hb)
                  replace HO1096 := zMk (zRe (by exact uR HO1096.out) (zRz ho25) hb)
                  replace HB := zMk (zBt (by exact uT HB.out) hb)
                  clear hb ho25
                  obtain ⟨Ao26, co26, eo26⟩ := zRs HO1096.out
                  (first |  subst eo26|  (injection eo26 with f1_ f2_ f3_; have f4_ := f1_.symm; have f5_ := f3_.symm; clear f1_ f2_ f3_; subst f4_; subst f5_))
                  refine hK.out _ _ trivial (fun hHeld => ?_)
                  clear hK K
                  refine norm_ (a' := ?_) ?_ ?_
                  rotate_left
                  · show Act.put _ (some 43) _ = _
                    simp only [Act.put, zSa, zSb, zSc, i64_w, i32_w]
                    rfl
                  refine one_ (i := 2) (N := some 37) #[true, true, true, true, true, true, true, true, true, false, false] rfl rfl (one_of HT_.out (by kernel_rfl)) (by decide) (fun K hK => ?_)
                  refine goes_ Tryd.func46 (by kernel_rfl) rfl #[.slice Ao20 x4_2.length co20, .slice Ao26 y1094.length co26] (by rfl) rfl rfl (by (try simp only [zMa, zMc, zMn]); first | done | rfl | (simp only [zLd, zLt]; rfl)) ?_
                  with_reducible refine (r1_Mul.calls kj8 _ _ x4_2 _ _ y1094 t1097 _ ?side1 ?side2 ?side3 ?side4 A15.out).mono ?_
                  (case side1 => exact uC (zRr HO_4.out).2.2)
                  (case side2 => exact (zRr HO_4.out).2.1)
                  (case side3 => exact uC (zRr HO1096.out).2.2)
                  (case side4 => exact (zRr HO1096.out).2.1)
                  rintro e w27 ⟨v1098, rfl, ho0, hb⟩
                  refine ⟨_, rfl, ?_⟩
                  have HO1099 := zMk (zRl (zRw (zRw (zRw ho0 (zRt (by exact uR HO_4.out))) (zRt (by exact uR HO1096.out))) (zRt (by exact uR HO1102.out))) (zBs (by exact uT HB.out)))
                  replace HO_4 := zMk (zRe (by exact uR HO_4.out) (zRz ho0) hb)
                  replace HO1096 := zMk (zRe (by exact uR HO1096.out) (zRz ho0) hb)
                  replace HO1102 := zMk (zRe (by exact uR HO1102.out) (zRz ho0) hb)
                  replace HB := zMk (zBt (by exact uT HB.out) hb)
                  (try clear hb)
                  (try clear hb2)
                  (try clear hk)
                  (try clear hi)
                  (try clear ho0)
                  refine hK.out _ _ trivial (fun hHeld => ?_)
                  clear hK K
                  refine norm_ (a' := ?_) ?_ ?_
                  rotate_left
                  · show Act.put _ (some 37) _ = _
                    simp only [Act.put, zSa, zSb, zSc, i64_w, i32_w]
                    rfl
                  exact norm_ (by simp only [putAll, Act.put, zSa, zSb, zSc]) (hCont (.slice Ao26 y1094.length co26, v1098, v1101) _ ⟨(by (with_reducible repeat (first | apply zRa | apply zRn | apply zRd)); exact zRm HO1096.out (fun _ hk => ⟨hk.2, ⟨hk.1.2, hk.1.1.2⟩⟩)), (by (with_reducible repeat (first | apply zRa | apply zRn | apply zRd)); exact zRm HO1099.out (fun _ hk => ⟨hk.1.2, ⟨hk.2, hk.1.1.2⟩⟩)), (by (with_reducible repeat (first | apply zRa | apply zRn | apply zRd)); exact zRm HO1102.out (fun _ hk => ⟨hk.1.2, ⟨hk.2, hk.1.1.2⟩⟩)), (by (with_reducible repeat (first | apply zRa | apply zRn | apply zRd)); exact zRm HO_4.out (fun _ hk => ⟨hk.1.1.2, ⟨hk.2, hk.1.2⟩⟩)), (by exact uT HB.out)⟩)
              · skip
                refine Kd.R_lit_step (Kd.int .u32) _ 58 ?hg (N := 43) ?hd (xs := ([((bt a0 x5_2) - 48) % 256] : List Int)) (inner := [.int .u32 (((bt a0 x5_2) - 48) % 256)]) (ok := fun _ => True) (okp := fun _ => True) ?hr ?hp (fun _ hk => hk) trivial (Below.refl _ _) (Nat.le_refl _) (by simp) ?_; (case hd => rfl); (case hg => rfl); (case hr => first | (go_simp; done) | (go_simp; rfl) | (go_simp; rw [show ∀ x : Int, IntKind.u32.wrap (IntKind.u8.wrap x) = x % 256 from fun x => (by show (x % 256) % 4294967296 = x % 256; omega)])); (case hp => exact (Reps.one (show Kd.M (Kd.int .u32) _ _ _ (((bt a0 x5_2) - 48) % 256) [.int .u32 (((bt a0 x5_2) - 48) % 256)] from rfl) (Reps.none _ _)))
                intro v1101 w22 ho23 hb hg_ hnew_
                clear hg_ hnew_
                (first | rw [← Ny1100.out] at ho23 | (simp only [Int.reduceToNat] at ho23; rw [← Ny1100.out] at ho23))
                have HO1102 := zMk (zRl (zRw ho23 (zRt (by exact uR HO_4.out))) (zBs (by exact uT HB.out)))
                replace HO_4 := zMk (zRe (by exact uR HO_4.out) (zRz ho23) hb)
                replace HB := zMk (zBt (by exact uT HB.out) hb)
                clear hb ho23
                refine hK.out _ _ trivial (fun hHeld => ?_)
                clear hK K
                refine norm_ (a' := ?_) ?_ ?_
                rotate_left
                · show Act.put _ (some 43) _ = _
                  simp only [Act.put, zSa, zSb, zSc, i64_w, i32_w]
                  rfl
                refine one_ (i := 1) (N := some 36) #[true, true, false, true, true, true, true, true, true, false, false] rfl rfl (one_of HT_.out (by kernel_rfl)) (by decide) (fun K hK => ?_)
                refine Kd.R_lit_step (Kd.int .u32) _ 58 ?hg (N := 36) ?hd (xs := ([10] : List Int)) (inner := [.int .u32 10]) (ok := fun _ => True) (okp := fun _ => True) ?hr ?hp (fun _ hk => hk) trivial (Below.refl _ _) (Nat.le_refl _) (by simp) ?_; (case hd => rfl); (case hg => rfl); (case hr => first | (go_simp; done) | (go_simp; rfl) | (go_simp; rw [show ∀ x : Int, IntKind.u32.wrap (IntKind.u8.wrap x) = x % 256 from fun x => (by show (x % 256) % 4294967296 = x % 256; omega)])); (case hp => exact (Reps.one (show Kd.M (Kd.int .u32) _ _ _ 10 [.int .u32 10] from rfl) (Reps.none _ _)))
                intro v1095 w24 ho25 hb hg_ hnew_
                clear hg_ hnew_
                (first | rw [← Ny1094.out] at ho25 | (simp only [Int.reduceToNat] at ho25; rw [← Ny1094.out] at ho25))
                have HO1096 := zMk (zRl (zRw (zRw ho25 (zRt (by exact uR HO_4.out))) (zRt (by exact uR HO1102.out))) (zBs (by exact uT HB.out)))
                replace HO_4 := zMk (zRe (by exact uR HO_4.out) (zRz ho25) hb)
                replace HO1102 := zMk (zRe (by exact uR HO1102.out) (zRz ho25) hb)
                replace HB := zMk (zBt (by exact uT HB.out) hb)
                clear hb ho25
                obtain ⟨Ao26, co26, eo26⟩ := zRs HO1096.out
                (first |  subst eo26|  (injection eo26 with f1_ f2_ f3_; have f4_ := f1_.symm; have f5_ := f3_.symm; clear f1_ f2_ f3_; subst f4_; subst f5_))
                refine hK.out _ _ trivial (fun hHeld => ?_)
                clear hK K
                refine norm_ (a' := ?_) ?_ ?_
                rotate_left
                · show Act.put _ (some 36) _ = _
                  simp only [Act.put, zSa, zSb, zSc, i64_w, i32_w]
                  rfl
                refine one_ (i := 2) (N := some 37) #[true, true, true, true, true, true, true, true, true, false, false] rfl rfl (one_of HT_.out (by kernel_rfl)) (by decide) (fun K hK => ?_)
                refine goes_ Tryd.func46 (by kernel_rfl) rfl #[.slice Ao20 x4_2.length co20, .slice Ao26 y1094.length co26] (by rfl) rfl rfl (by (try simp only [zMa, zMc, zMn]); first | done | rfl | (simp only [zLd, zLt]; rfl)) ?_
                with_reducible refine (r1_Mul.calls kj8 _ _ x4_2 _ _ y1094 t1097 _ ?side1 ?side2 ?side3 ?side4 A15.out).mono ?_
                (case side1 => exact uC (zRr HO_4.out).2.2)
                (case side2 => exact (zRr HO_4.out).2.1)
                (case side3 => exact uC (zRr HO1096.out).2.2)
                (case side4 => exact (zRr HO1096.out).2.1)
                rintro e w27 ⟨v1098, rfl, ho0, hb⟩
                refine ⟨_, rfl, ?_⟩
                have HO1099 := zMk (zRl (zRw (zRw (zRw ho0 (zRt (by exact uR HO_4.out))) (zRt (by exact uR HO1102.out))) (zRt (by exact uR HO1096.out))) (zBs (by exact uT HB.out)))
                replace HO_4 := zMk (zRe (by exact uR HO_4.out) (zRz ho0) hb)
                replace HO1102 := zMk (zRe (by exact uR HO1102.out) (zRz ho0) hb)
                replace HO1096 := zMk (zRe (by exact uR HO1096.out) (zRz ho0) hb)
                replace HB := zMk (zBt (by exact uT HB.out) hb)
                (try clear hb)
                (try clear hb2)
                (try clear hk)
                (try clear hi)
                (try clear ho0)
                refine hK.out _ _ trivial (fun hHeld => ?_)
                clear hK K
                refine norm_ (a' := ?_) ?_ ?_
                rotate_left
                · show Act.put _ (some 37) _ = _
                  simp only [Act.put, zSa, zSb, zSc, i64_w, i32_w]
                  rfl
                exact norm_ (by simp only [putAll, Act.put, zSa, zSb, zSc]) (hCont (.slice Ao26 y1094.length co26, v1098, v1101) _ ⟨(by (with_reducible repeat (first | apply zRa | apply zRn | apply zRd)); exact zRm HO1096.out (fun _ hk => ⟨hk.2, ⟨hk.1.2, hk.1.1.2⟩⟩)), (by (with_reducible repeat (first | apply zRa | apply zRn | apply zRd)); exact zRm HO1099.out (fun _ hk => ⟨hk.2, ⟨hk.1.2, hk.1.1.2⟩⟩)), (by (with_reducible repeat (first | apply zRa | apply zRn | apply zRd)); exact zRm HO1102.out (fun _ hk => ⟨hk.1.2, ⟨hk.2, hk.1.1.2⟩⟩)), (by (with_reducible repeat (first | apply zRa | apply zRn | apply zRd)); exact zRm HO_4.out (fun _ hk => ⟨hk.1.2, ⟨hk.2, hk.1.1.2⟩⟩)), (by exact uT HB.out)⟩)
            rintro ⟨v1095, v1098, v1101⟩ w28 ⟨h0_, h1_, h2_, h3_, h4_⟩
            have n0_ : Aside0 (Kd.R (Kd.int .u32) 58 w28 w.heap.size (fun k_ => some k_ ≠ (v1098 : Value).ownBlock ∧ some k_ ≠ (v1101 : Value).ownBlock ∧ some k_ ≠ (.slice Ao20 x4_2.length co20 : Value).ownBlock) v1095 y1094) := ⟨h0_⟩
            have n1_ : Aside0 (Kd.R (Kd.int .u32) 58 w28 w.heap.size (fun k_ => some k_ ≠ (v1095 : Value).ownBlock ∧ some k_ ≠ (v1101 : Value).ownBlock ∧ some k_ ≠ (.slice Ao20 x4_2.length co20 : Value).ownBlock) v1098 t1097) := ⟨h1_⟩
            have n2_ : Aside0 (Kd.R (Kd.int .u32) 58 w28 w.heap.size (fun k_ => some k_ ≠ (v1095 : Value).ownBlock ∧ some k_ ≠ (v1098 : Value).ownBlock ∧ some k_ ≠ (.slice Ao20 x4_2.length co20 : Value).ownBlock) v1101 y1100) := ⟨h2_⟩
            have n3_ : Aside0 (Kd.R (Kd.int .u32) 58 w28 w.heap.size (fun k_ => some k_ ≠ (v1095 : Value).ownBlock ∧ some k_ ≠ (v1098 : Value).ownBlock ∧ some k_ ≠ (v1101 : Value).ownBlock) (.slice Ao20 x4_2.length co20) x4_2) := ⟨h3_⟩
            have n4_ : Aside0 (Below w.heap.size w w28) := ⟨h4_⟩
            clear HO_4 HB h0_ h1_ h2_ h3_ h4_
            have HO1096 := n0_
            have HO1099 := n1_
            have HO1102 := n2_
            have HO_4 := n3_
            have HB := n4_
            clear n0_ n1_ n2_ n3_ n4_
            have hHeld := trivial
            obtain ⟨Ao29, co29, eo29⟩ := zRs HO1099.out
            (first |  subst eo29|  (injection eo29 with f1_ f2_ f3_; have f4_ := f1_.symm; have f5_ := f3_.symm; clear f1_ f2_ f3_; subst f4_; subst f5_))
            obtain ⟨Ao30, co30, eo30⟩ := zRs HO1102.out
            (first |  subst eo30|  (injection eo30 with f1_ f2_ f3_; have f4_ := f1_.symm; have f5_ := f3_.symm; clear f1_ f2_ f3_; subst f4_; subst f5_))
            refine norm_ (a' := ?_) ?_ ?_
            rotate_left
            · simp only [putAll, Act.put, zSa, zSb, zSc]
              rfl
            refine one_ (i := 9) (N := some 44) #[true, true, true, true, true, true, true, true, true, true, false] rfl rfl (one_of HT_.out (by kernel_rfl)) (by decide) (fun K hK => ?_)
            refine goes_ Tryd.func41 (by kernel_rfl) rfl #[.slice Ao29 t1097.length co29, .slice Ao30 y1100.length co30] (by rfl) rfl rfl (by (try simp only [zMa, zMc, zMn]); first | done | rfl | (simp only [zLd, zLt]; rfl)) ?_
            with_reducible refine (r1_Add.calls kj8 _ _ t1097 _ _ y1100 t1103 _ ?side1 ?side2 ?side3 ?side4 A19.out).mono ?_
            (case side1 => exact uC (zRr HO1099.out).2.2)
            (case side2 => exact (zRr HO1099.out).2.1)
            (case side3 => exact uC (zRr HO1102.out).2.2)
            (case side4 => exact (zRr HO1102.out).2.1)
            rintro e w31 ⟨v1104, rfl, ho0, hb⟩
            refine ⟨_, rfl, ?_⟩
            have HO1105 := zMk (zRl (zRw (zRw (zRw (zRw ho0 (zRt (by exact uR HO_4.out))) (zRt (by exact uR HO1096.out))) (zRt (by exact uR HO1099.out))) (zRt (by exact uR HO1102.out))) (zBs (by exact uT HB.out)))
            replace HO_4 := zMk (zRe (by exact uR HO_4.out) (zRz ho0) hb)
            replace HO1096 := zMk (zRe (by exact uR HO1096.out) (zRz ho0) hb)
            replace HO1099 := zMk (zRe (by exact uR HO1099.out) (zRz ho0) hb)
            replace HO1102 := zMk (zRe (by exact uR HO1102.out) (zRz ho0) hb)
            replace HB := zMk (zBt (by exact uT HB.out) hb)
            (try clear hb)
            (try clear hb2)
            (try clear hk)
            (try clear hi)
            (try clear ho0)
            refine hK.out _ _ trivial (fun hHeld => ?_)
            clear hK K
            refine norm_ (a' := ?_) ?_ ?_
            rotate_left
            · show Act.put _ (some 44) _ = _
              simp only [Act.put, zSa, zSb, zSc, i64_w, i32_w]
              rfl
            refine pure_ (i := 10) (N := some 4) (v := ?_) (a' := ?_) #[true, true, true, true, true, true, true, true, true, true, true] rfl rfl (any_of HT_.out (by kernel_rfl)) (fun _ _ _ h => h) (Or.inl ⟨by rfl, ?_⟩) ?_ ?_
            rotate_left
            · intro w'
              go_simp
              with_reducible rfl
            rotate_left
            · simp only [Act.put, zSa, zSb, zSc, i64_w, i32_w]
              rfl
            refine done_ (done_of HT_.out (by kernel_rfl)) ?_
            try go_wp2
            go_roundg kj8
            case measure => have := HJ1.out; have := HK2.out; have := HJ8.out; omega
            case rel => exact ⟨(t1103), (wrap64 (x5_2 + 1)), (by first | rfl | (simp; done) | (simp [*]; done)), H', ⟨by have := HJ1.out; have := HK2.out; have := HJ8.out; omega⟩, ⟨by (with_reducible repeat (first | apply zRa | apply zRn | apply zRd)); exact zRm HO1105.out (fun _ hk => trivial)⟩, ⟨by exact uT HB.out⟩⟩
      · rw [if_neg c8] at H
        have c8b0 : decide (x5_2 < (a0.size : Int)) = false := decide_eq_false c8
        clear c8
        simp only [Option.some.injEq, Prod.mk.injEq] at H
        obtain ⟨rfl, rfl⟩ := H
        go_wp2
        go_ret2
        exact ⟨_, by first | rfl | (simp [errW_none, errW_some] <;> rfl) | (simp [*, errW_none, errW_some] <;> rfl), by exact uR HO_4.out, by exact uT HB.out⟩


mutual
def filigreeref02_Parse.j0 : Nat → ByteArray → Bool → Option (Bool × List Int × Int)
  | 0, _, _ => none
  | k + 1, x0, x4 => if x4 = true then (if 1 ≤ (x0.size : Int) then (filigreeref02_Parse.j1 k (x0.extract 1 x0.size) x4) else (none)) else (filigreeref02_Parse.j1 k x0 x4)
def filigreeref02_Parse.j1 : Nat → ByteArray → Bool → Option (Bool × List Int × Int)
  | 0, _, _ => none
  | k + 1, x0, x4 => (r1_Parse.f k x0).bind fun bt1107 => (if bt1107.2 = 0 then (if x4 = true then (if (bt1107.1.length : Int) = 0 then (some (false, ([] : List Int), 2)) else ((filigreeref02_make2.f k x4 bt1107.1).bind fun bt1111 => (some (bt1111.1, bt1111.2, 0)))) else ((filigreeref02_make2.f k x4 bt1107.1).bind fun bt1115 => (some (bt1115.1, bt1115.2, 0)))) else (some (false, ([] : List Int), 2)))
end
def filigreeref02_Parse.f (k : Nat) (a0 : ByteArray) : Option (Bool × List Int × Int) := if (a0.size : Int) > 0 then (if 0 < (a0.size : Int) then (filigreeref02_Parse.j0 k a0 ((bt a0 0) == 45)) else (none)) else (filigreeref02_Parse.j0 k a0 false)
set_option maxHeartbeats 8000000 in
set_option maxRecDepth 100000 in
theorem filigreeref02_Parse.calls (k : Nat) (a0 : ByteArray) (r1 : Bool) (r2 : List Int) (r3 : Int) (w : World) (h : filigreeref02_Parse.f k a0 = some (r1, r2, r3)) :
    Calls Tryd.prog 28 #[.string a0] w fun e w' => ∃ v1_ : Value, e = .returned (.tuple #[.agg #[.bool r1, v1_], .int .i64 r3]) ∧ Kd.R (Kd.int .u32) 58 w' w.heap.size (fun _ => True) v1_ r2 ∧ Below w.heap.size w w' := by
  have hu24 := Tryd.underlying24
  have HB := zMk (Below.refl w.heap.size w)
  have H : (if (a0.size : Int) > 0 then (if 0 < (a0.size : Int) then (filigreeref02_Parse.j0 k a0 ((bt a0 0) == 45)) else (none)) else (filigreeref02_Parse.j0 k a0 false)) = some (r1, r2, r3) := h
  clear h
  have HC2 := zMk H
  clear H
  go_enter Tryd.func28, Tryd.ntmps28
  go_upto_region 1 with (first |  ((with_reducible refine gate_dst (N := 2) rfl ?_); (try (refine gate_guard (by rfl) ?_; dsimp only)); refine box_event ?hg (N := 2) ?hd (cs := #[.bool false, .slice none 0 0]) (t := 24) ?hr ?_; (case hd => rfl); (case hg => rfl); (case hr => first |  (go_simp; done)|  (go_simp; rfl)|  (go_simp; rw [show ∀ x : Int, IntKind.u32.wrap (IntKind.u8.wrap x) = x % 256 from fun x => (by show (x % 256) % 4294967296 = x % 256; omega)])); intro gb1106 hg w3 hbox hb; have BK1106 := zMk (hbox); have GW1106 := zMk ((by rw [hg]; exact (zBs (by exact uT HB.out)) : w.heap.size ≤ gb1106)); have GE1106 := zMk ((by rw [hg]; exact (zBs (by exact uT HB.out)) : w.heap.size ≤ gb1106)); have IGE1106 := ownGe GE1106.out; replace HB := zMk (zBt (by exact uT HB.out) hb); clear hb hbox hg))
  (try simp only [Act.put, zSa, zSb, zSc])
  go_cut [4] (fun v4 wc => ∃ (kq : Nat) (x4_1 : Bool), v4 = .bool x4_1 ∧ Aside0 (filigreeref02_Parse.j0 kq a0 x4_1 = some (r1, r2, r3)) ∧ Aside0 (kq ≤ k) ∧ Aside0 (wc.heap[gb1106]? = some (.cells #[.bool false, (.slice none 0 0)] 24 (0, 0))) ∧ Aside0 (Below w.heap.size w wc))
  case first =>
    have H := HC2.out
    clear HC2
    by_cases c4 : (a0.size : Int) > 0
    · rw [if_pos c4] at H
      have c4b0 : decide (0 < (a0.size : Int)) = true := decide_eq_true c4
      have c4b1 : decide (0 < a0.size) = true := decide_eq_true (by omega)
      clear c4
      (first | rw [c4b0] | (simp only [i64_w, i32_w]; rw [c4b0]) | rw [c4b1] | skip)
      by_cases c5 : 0 < (a0.size : Int)
      rotate_left
      · rw [if_neg c5] at H; exact absurd H (by simp)
      rw [if_pos c5] at H
      have c5b0 : decide (0 < (a0.size : Int)) = true := decide_eq_true c5
      have c5b1 : decide (0 < a0.size) = true := decide_eq_true (by omega)
      clear c5
      have H' := zMk H
      clear H
      have p6 : 0 ≤ (0 : Int) := (by omega)
      have q6 : 0 < a0.size := (by have : (0 : Int) < (a0.size : Int) := of_decide_eq_true (by first | (with_reducible assumption) | assumption); omega)
      have hx6 : ∀ h : 0 < a0.size, ((a0[0]'h).toNat : Int) = bt a0 0 := bt_at a0 0
      clear p6
      have qi6 : (0 < (a0.size : Int)) = True := eq_true (of_decide_eq_true (by first | (with_reducible assumption) | assumption))
      replace q6 := eq_true q6
      go_wp2
      go_meet
      case rel => exact ⟨_, (((bt a0 0) == 45)), (by first | rfl | (simp; done) | (simp [*]; done)), H', ⟨by first | omega | exact Nat.le_refl _⟩, ⟨by (with_reducible repeat (first | refine zKn ?_ _ | refine zKd ?_ | refine zKa ?_ _)); exact BK1106.out⟩, ⟨by exact uT HB.out⟩⟩
    · rw [if_neg c4] at H
      have c4b0 : decide (0 < (a0.size : Int)) = false := decide_eq_false c4
      have c4b1 : decide (0 < a0.size) = false := decide_eq_false (by omega)
      clear c4
      (first | rw [c4b0] | (simp only [i64_w, i32_w]; rw [c4b0]) | rw [c4b1] | skip)
      have H' := zMk H
      clear H
      go_wp2
      go_meet
      case rel => exact ⟨_, (false), (by first | rfl | (simp; done) | (simp [*]; done)), H', ⟨by first | omega | exact Nat.le_refl _⟩, ⟨by (with_reducible repeat (first | refine zKn ?_ _ | refine zKd ?_ | refine zKa ?_ _)); exact BK1106.out⟩, ⟨by exact uT HB.out⟩⟩
  case rest =>
    clear HC2
    obtain ⟨kq, x4_1, rfl, HA, HJ1, BK1106, HB⟩ := hcut
    rcases kq with _ | kj1
    · exact absurd HA.out (by simp [filigreeref02_Parse.j0])
    have H := HA.out
    clear HA
    simp only [filigreeref02_Parse.j0] at H
    have HC7 := zMk H
    clear H
    go_upto_if 15 with (fail)
    go_cut [0] (fun v0 wc => ∃ (kq : Nat) (x0_6 : ByteArray), v0 = .string x0_6 ∧ Aside0 (filigreeref02_Parse.j1 kq x0_6 x4_1 = some (r1, r2, r3)) ∧ Aside0 (kq ≤ kj1) ∧ Aside0 (wc.heap[gb1106]? = some (.cells #[.bool false, (.slice none 0 0)] 24 (0, 0))) ∧ Aside0 (Below w.heap.size w wc))
    case first =>
      have H := HC7.out
      clear HC7
      by_cases c8 : x4_1 = true
      · subst c8
        have H1 : (if 1 ≤ (a0.size : Int) then (filigreeref02_Parse.j1 kj1 (a0.extract 1 a0.size) true) else (none)) = some (r1, r2, r3) := by rw [if_pos rfl] at H; exact H
        clear H
        have H := H1
        clear H1
        by_cases c9 : 1 ≤ (a0.size : Int)
        rotate_left
        · rw [if_neg c9] at H; exact absurd H (by simp)
        rw [if_pos c9] at H
        have c9b0 := eq_true c9
        have c9b1 : decide (1 ≤ (a0.size : Int)) = true := decide_eq_true c9
        clear c9
        have H' := zMk H
        clear H
        go_wp2
        go_meet
        case rel => exact ⟨_, (a0.extract 1 a0.size), (by first | rfl | (simp; done) | (simp [*]; done)), H', ⟨by have := HJ1.out; first | omega | exact Nat.le_refl _⟩, ⟨by (with_reducible repeat (first | refine zKn ?_ _ | refine zKd ?_ | refine zKa ?_ _)); exact BK1106.out⟩, ⟨by exact uT HB.out⟩⟩
      · replace c8 := Bool.eq_false_iff.mpr c8
        subst c8
        have H1 : (filigreeref02_Parse.j1 kj1 a0 false) = some (r1, r2, r3) := by rw [if_neg (show ¬ (false = true) by decide)] at H; exact H
        clear H
        have H := H1
        clear H1
        have H' := zMk H
        clear H
        go_wp2
        go_meet
        case rel => exact ⟨_, (a0), (by first | rfl | (simp; done) | (simp [*]; done)), H', ⟨by have := HJ1.out; first | omega | exact Nat.le_refl _⟩, ⟨by (with_reducible repeat (first | refine zKn ?_ _ | refine zKd ?_ | refine zKa ?_ _)); exact BK1106.out⟩, ⟨by exact uT HB.out⟩⟩
    case rest =>
      clear HC7
      obtain ⟨kq, x0_6, rfl, HA, HJ6, BK1106, HB⟩ := hcut
      rcases kq with _ | kj6
      · exact absurd HA.out (by simp [filigreeref02_Parse.j1])
      have H := HA.out
      clear HA
      simp only [filigreeref02_Parse.j1] at H
      replace H := bnd H
      obtain ⟨⟨t1107, t1108⟩, A100, H⟩ := H
      replace H : (if t1108 = 0 then (if x4_1 = true then (if (t1107.length : Int) = 0 then (some (false, ([] : List Int), 2)) else ((filigreeref02_make2.f kj6 x4_1 t1107).bind fun bt1111 => (some (bt1111.1, bt1111.2, 0)))) else ((filigreeref02_make2.f kj6 x4_1 t1107).bind fun bt1115 => (some (bt1115.1, bt1115.2, 0)))) else (some (false, ([] : List Int), 2))) = some (r1, r2, r3) := H
      have A10 := zMk A100
      clear A100
      by_cases c11 : t1108 = 0
      · rw [if_pos c11] at H
        have c11b0 : (t1108 == 0) = true := beq_iff_eq.mpr c11
        have c11b1 : (t1108 != 0) = false := bne_eq_false_iff_eq.mpr c11
        clear c11
        by_cases c12 : x4_1 = true
        · subst c12
          have H1 : (if (t1107.length : Int) = 0 then (some (false, ([] : List Int), 2)) else ((filigreeref02_make2.f kj6 true t1107).bind fun bt1111 => (some (bt1111.1, bt1111.2, 0)))) = some (r1, r2, r3) := by rw [if_pos rfl] at H; exact H
          clear H
          have H := H1
          clear H1
          by_cases c13 : (t1107.length : Int) = 0
          · rw [if_pos c13] at H
            have c13b0 : ((t1107.length : Int) == 0) = true := beq_iff_eq.mpr c13
            have c13b1 : ((t1107.length : Int) != 0) = false := bne_eq_false_iff_eq.mpr c13
            clear c13
            simp only [Option.some.injEq, Prod.mk.injEq] at H
            obtain ⟨rfl, rfl, rfl⟩ := H
            go_wp2_with (first |  ((with_reducible refine gate_callee (f := 53) rfl ?_); refine goesL_ (some 20) rfl rfl Tryd.func53 (by kernel_rfl) rfl #[.string x0_6] rfl (by (try simp only [zMa, zMc, zMn]); first |  done|  rfl|  (simp only [zLd, zLt]; rfl)) ?_; (with_reducible refine (r1_Parse.calls kj6 x0_6 t1107 t1108 _ A10.out).mono ?_); rintro e w14 ⟨v1109, rfl, ho0, hb⟩; refine ⟨_, rfl, ?_⟩; have HO1110 := zMk (zRl ho0 (zBs (by exact uT HB.out))); replace BK1106 := zMk (zKb (g := gb1106) (o := .cells #[.bool false, .slice none 0 0] 24 (0, 0)) (by (with_reducible repeat (first |  refine zKn ?_ _|  refine zKd ?_|  refine zKa ?_ _)); exact BK1106.out) hb); replace HB := zMk (zBt (by exact uT HB.out) hb); (try clear hb); (try clear hb2); (try clear hk); (try clear hi); (try clear ho0); obtain ⟨Ao15, co15, eo15⟩ := zRs HO1110.out; subst eo15; have hcz16_0 : w14.cell? ⟨gb1106, 0, none⟩ = some (.bool false) := (zKc BK1106.out 0).trans rfl; have hcz16_1 : w14.cell? ⟨gb1106, 1, none⟩ = some (.slice none 0 0) := (zKc BK1106.out 1).trans rfl; have hfz16_0 := zKf BK1106.out 0; have hfz16_1 := zKf BK1106.out 1))
            refine bodyPost_ret (results_ct rfl _ _ gb1106 24 #[.bool false, .slice none 0 0] (0, 0) _ rfl (by (with_reducible repeat (first | refine zKn ?_ _ | refine zKd ?_ | refine zKa ?_ _)); refine blk_put (cs := #[.bool false, .slice none 0 0]) ?_ 1 _ rfl; (with_reducible repeat (first | refine zKn ?_ _ | refine zKd ?_ | refine zKa ?_ _)); refine blk_put (cs := #[.bool false, .slice none 0 0]) ?_ 0 _ rfl; (with_reducible repeat (first | refine zKn ?_ _ | refine zKd ?_ | refine zKa ?_ _)); exact BK1106.out) Tryd.underlying24 rfl (by kernel_rfl)) rfl ?_
            exact ⟨_, by first | rfl | (simp [errW_none, errW_some] <;> rfl) | (simp [*, errW_none, errW_some] <;> rfl), by first | exact Kd.R_nil _ _ _ _ _ | exact Kd.N_nil _ _ _ _ _ | exact Kd.V_nil _ _ _ _ _ | exact Kd.Q_nil _ _ _ _ _ | exact Kd.S_nil _ _ _ _ _, by exact uT HB.out⟩
          · rw [if_neg c13] at H
            have c13b0 : ((t1107.length : Int) == 0) = false := beq_eq_false_iff_ne.mpr c13
            have c13b1 : ((t1107.length : Int) != 0) = true := bne_iff_ne.mpr c13
            have c13b2 : ¬ (t1107 = []) := fun h_ => c13 (by rw [h_]; rfl)
            replace H := bnd H
            obtain ⟨⟨t1111, t1112⟩, A170, H⟩ := H
            replace H : (some (t1111, t1112, 0)) = some (r1, r2, r3) := H
            have A17 := zMk A170
            clear A170
            simp only [Option.some.injEq, Prod.mk.injEq] at H
            obtain ⟨rfl, rfl, rfl⟩ := H
            go_wp2_with (first |  ((with_reducible refine gate_callee (f := 53) rfl ?_); refine goesL_ (some 20) rfl rfl Tryd.func53 (by kernel_rfl) rfl #[.string x0_6] rfl (by (try simp only [zMa, zMc, zMn]); first |  done|  rfl|  (simp only [zLd, zLt]; rfl)) ?_; (with_reducible refine (r1_Parse.calls kj6 x0_6 t1107 t1108 _ A10.out).mono ?_); rintro e w18 ⟨v1109, rfl, ho0, hb⟩; refine ⟨_, rfl, ?_⟩; have HO1110 := zMk (zRl ho0 (zBs (by exact uT HB.out))); replace BK1106 := zMk (zKb (g := gb1106) (o := .cells #[.bool false, .slice none 0 0] 24 (0, 0)) (by (with_reducible repeat (first |  refine zKn ?_ _|  refine zKd ?_|  refine zKa ?_ _)); exact BK1106.out) hb); replace HB := zMk (zBt (by exact uT HB.out) hb); (try clear hb); (try clear hb2); (try clear hk); (try clear hi); (try clear ho0); obtain ⟨Ao19, co19, eo19⟩ := zRs HO1110.out; subst eo19)|  ((with_reducible refine gate_callee (f := 38) rfl ?_); refine goesL_ (some 36) rfl rfl Tryd.func38 (by kernel_rfl) rfl #[.bool true, .slice Ao19 t1107.length co19] rfl (by (try simp only [zMa, zMc, zMn]); first |  done|  rfl|  (simp only [zLd, zLt]; rfl)) ?_; (with_reducible refine (filigreeref02_make2.calls kj6 true _ _ t1107 t1111 t1112 _ ?side1 ?side2 A17.out).mono ?_); (case side1 => exact uC (zRr HO1110.out).2.2); (case side2 => exact (zRr HO1110.out).2.1); rintro e w20 ⟨v1113, rfl, ho0, hb⟩; refine ⟨_, rfl, ?_⟩; have HO1114 := zMk (zRl (zRw ho0 (zRt (by exact uR HO1110.out))) (zBs (by exact uT HB.out))); replace HO1110 := zMk (zRe (by exact uR HO1110.out) (zRz ho0) hb); replace BK1106 := zMk (zKb (g := gb1106) (o := .cells #[.bool false, .slice none 0 0] 24 (0, 0)) (by (with_reducible repeat (first |  refine zKn ?_ _|  refine zKd ?_|  refine zKa ?_ _)); exact BK1106.out) hb); replace HB := zMk (zBt (by exact uT HB.out) hb); (try clear hb); (try clear hb2); (try clear hk); (try clear hi); (try clear ho0); have hcz21_0 : w20.cell? ⟨gb1106, 0, none⟩ = some (.bool false) := (zKc BK1106.out 0).trans rfl; have hcz21_1 : w20.cell? ⟨gb1106, 1, none⟩ = some (.slice none 0 0) := (zKc BK1106.out 1).trans rfl; have hfz21_0 := zKf BK1106.out 0; have hfz21_1 := zKf BK1106.out 1; obtain ⟨Ao22, co22, eo22⟩ := zRs HO1114.out; subst eo22))
            refine bodyPost_ret (results_ct rfl _ _ gb1106 24 #[.bool t1111, .slice Ao22 t1112.length co22] (0, 0) _ rfl (by (with_reducible repeat (first | refine zKn ?_ _ | refine zKd ?_ | refine zKa ?_ _)); refine blk_put (cs := #[.bool t1111, .slice none 0 0]) ?_ 1 _ rfl; (with_reducible repeat (first | refine zKn ?_ _ | refine zKd ?_ | refine zKa ?_ _)); refine blk_put (cs := #[.bool false, .slice none 0 0]) ?_ 0 _ rfl; (with_reducible repeat (first | refine zKn ?_ _ | refine zKd ?_ | refine zKa ?_ _)); exact BK1106.out) Tryd.underlying24 rfl (by kernel_rfl)) rfl ?_
            exact ⟨_, by first | rfl | (simp [errW_none, errW_some] <;> rfl) | (simp [*, errW_none, errW_some] <;> rfl), by (with_reducible repeat (first | apply zRa | apply zRn | apply zRd)); exact zRm (Kd.R_far (p := ⟨gb1106, 1, none⟩) (Kd.R_far (p := ⟨gb1106, 0, none⟩) (Kd.R_types HO1114.out BK1106.out (by decide)) (fun _ hk => hk.2) (.bool t1111)) (fun _ hk => hk.2) (.slice Ao22 t1112.length co22)) (fun _ hk => trivial), by exact uT HB.out⟩
        · replace c12 := Bool.eq_false_iff.mpr c12
          subst c12
          have H1 : ((filigreeref02_make2.f kj6 false t1107).bind fun bt1115 => (some (bt1115.1, bt1115.2, 0))) = some (r1, r2, r3) := by rw [if_neg (show ¬ (false = true) by decide)] at H; exact H
          clear H
          have H := H1
          clear H1
          replace H := bnd H
          obtain ⟨⟨t1115, t1116⟩, A230, H⟩ := H
          replace H : (some (t1115, t1116, 0)) = some (r1, r2, r3) := H
          have A23 := zMk A230
          clear A230
          simp only [Option.some.injEq, Prod.mk.injEq] at H
          obtain ⟨rfl, rfl, rfl⟩ := H
          go_wp2_with (first |  ((with_reducible refine gate_callee (f := 53) rfl ?_); refine goesL_ (some 20) rfl rfl Tryd.func53 (by kernel_rfl) rfl #[.string x0_6] rfl (by (try simp only [zMa, zMc, zMn]); first |  done|  rfl|  (simp only [zLd, zLt]; rfl)) ?_; (with_reducible refine (r1_Parse.calls kj6 x0_6 t1107 t1108 _ A10.out).mono ?_); rintro e w24 ⟨v1109, rfl, ho0, hb⟩; refine ⟨_, rfl, ?_⟩; have HO1110 := zMk (zRl ho0 (zBs (by exact uT HB.out))); replace BK1106 := zMk (zKb (g := gb1106) (o := .cells #[.bool false, .slice none 0 0] 24 (0, 0)) (by (with_reducible repeat (first |  refine zKn ?_ _|  refine zKd ?_|  refine zKa ?_ _)); exact BK1106.out) hb); replace HB := zMk (zBt (by exact uT HB.out) hb); (try clear hb); (try clear hb2); (try clear hk); (try clear hi); (try clear ho0); obtain ⟨Ao25, co25, eo25⟩ := zRs HO1110.out; subst eo25)|  ((with_reducible refine gate_callee (f := 38) rfl ?_); refine goesL_ (some 36) rfl rfl Tryd.func38 (by kernel_rfl) rfl #[.bool false, .slice Ao25 t1107.length co25] rfl (by (try simp only [zMa, zMc, zMn]); first |  done|  rfl|  (simp only [zLd, zLt]; rfl)) ?_; (with_reducible refine (filigreeref02_make2.calls kj6 false _ _ t1107 t1115 t1116 _ ?side1 ?side2 A23.out).mono ?_); (case side1 => exact uC (zRr HO1110.out).2.2); (case side2 => exact (zRr HO1110.out).2.1); rintro e w26 ⟨v1117, rfl, ho0, hb⟩; refine ⟨_, rfl, ?_⟩; have HO1118 := zMk (zRl (zRw ho0 (zRt (by exact uR HO1110.out))) (zBs (by exact uT HB.out))); replace HO1110 := zMk (zRe (by exact uR HO1110.out) (zRz ho0) hb); replace BK1106 := zMk (zKb (g := gb1106) (o := .cells #[.bool false, .slice none 0 0] 24 (0, 0)) (by (with_reducible repeat (first |  refine zKn ?_ _|  refine zKd ?_|  refine zKa ?_ _)); exact BK1106.out) hb); replace HB := zMk (zBt (by exact uT HB.out) hb); (try clear hb); (try clear hb2); (try clear hk); (try clear hi); (try clear ho0); have hcz27_0 : w26.cell? ⟨gb1106, 0, none⟩ = some (.bool false) := (zKc BK1106.out 0).trans rfl; have hcz27_1 : w26.cell? ⟨gb1106, 1, none⟩ = some (.slice none 0 0) := (zKc BK1106.out 1).trans rfl; have hfz27_0 := zKf BK1106.out 0; have hfz27_1 := zKf BK1106.out 1; obtain ⟨Ao28, co28, eo28⟩ := zRs HO1118.out; subst eo28))
          refine bodyPost_ret (results_ct rfl _ _ gb1106 24 #[.bool t1115, .slice Ao28 t1116.length co28] (0, 0) _ rfl (by (with_reducible repeat (first | refine zKn ?_ _ | refine zKd ?_ | refine zKa ?_ _)); refine blk_put (cs := #[.bool t1115, .slice none 0 0]) ?_ 1 _ rfl; (with_reducible repeat (first | refine zKn ?_ _ | refine zKd ?_ | refine zKa ?_ _)); refine blk_put (cs := #[.bool false, .slice none 0 0]) ?_ 0 _ rfl; (with_reducible repeat (first | refine zKn ?_ _ | refine zKd ?_ | refine zKa ?_ _)); exact BK1106.out) Tryd.underlying24 rfl (by kernel_rfl)) rfl ?_
          exact ⟨_, by first | rfl | (simp [errW_none, errW_some] <;> rfl) | (simp [*, errW_none, errW_some] <;> rfl), by (with_reducible repeat (first | apply zRa | apply zRn | apply zRd)); exact zRm (Kd.R_far (p := ⟨gb1106, 1, none⟩) (Kd.R_far (p := ⟨gb1106, 0, none⟩) (Kd.R_types HO1118.out BK1106.out (by decide)) (fun _ hk => hk.2) (.bool t1115)) (fun _ hk => hk.2) (.slice Ao28 t1116.length co28)) (fun _ hk => trivial), by exact uT HB.out⟩
      · rw [if_neg c11] at H
        have c11b0 : (t1108 == 0) = false := beq_eq_false_iff_ne.mpr c11
        have c11b1 : (t1108 != 0) = true := bne_iff_ne.mpr c11
        simp only [Option.some.injEq, Prod.mk.injEq] at H
        obtain ⟨rfl, rfl, rfl⟩ := H
        go_wp2_with (first |  ((with_reducible refine gate_callee (f := 53) rfl ?_); refine goesL_ (some 20) rfl rfl Tryd.func53 (by kernel_rfl) rfl #[.string x0_6] rfl (by (try simp only [zMa, zMc, zMn]); first |  done|  rfl|  (simp only [zLd, zLt]; rfl)) ?_; (with_reducible refine (r1_Parse.calls kj6 x0_6 t1107 t1108 _ A10.out).mono ?_); rintro e w29 ⟨v1109, rfl, ho0, hb⟩; refine ⟨_, rfl, ?_⟩; have HO1110 := zMk (zRl ho0 (zBs (by exact uT HB.out))); replace BK1106 := zMk (zKb (g := gb1106) (o := .cells #[.bool false, .slice none 0 0] 24 (0, 0)) (by (with_reducible repeat (first |  refine zKn ?_ _|  refine zKd ?_|  refine zKa ?_ _)); exact BK1106.out) hb); replace HB := zMk (zBt (by exact uT HB.out) hb); (try clear hb); (try clear hb2); (try clear hk); (try clear hi); (try clear ho0); have hcz30_0 : w29.cell? ⟨gb1106, 0, none⟩ = some (.bool false) := (zKc BK1106.out 0).trans rfl; have hcz30_1 : w29.cell? ⟨gb1106, 1, none⟩ = some (.slice none 0 0) := (zKc BK1106.out 1).trans rfl; have hfz30_0 := zKf BK1106.out 0; have hfz30_1 := zKf BK1106.out 1))
        refine bodyPost_ret (results_ct rfl _ _ gb1106 24 #[.bool false, .slice none 0 0] (0, 0) _ rfl (by (with_reducible repeat (first | refine zKn ?_ _ | refine zKd ?_ | refine zKa ?_ _)); refine blk_put (cs := #[.bool false, .slice none 0 0]) ?_ 1 _ rfl; (with_reducible repeat (first | refine zKn ?_ _ | refine zKd ?_ | refine zKa ?_ _)); refine blk_put (cs := #[.bool false, .slice none 0 0]) ?_ 0 _ rfl; (with_reducible repeat (first | refine zKn ?_ _ | refine zKd ?_ | refine zKa ?_ _)); exact BK1106.out) Tryd.underlying24 rfl (by kernel_rfl)) rfl ?_
        exact ⟨_, by first | rfl | (simp [errW_none, errW_some] <;> rfl) | (simp [*, errW_none, errW_some] <;> rfl), by first | exact Kd.R_nil _ _ _ _ _ | exact Kd.N_nil _ _ _ _ _ | exact Kd.V_nil _ _ _ _ _ | exact Kd.Q_nil _ _ _ _ _ | exact Kd.S_nil _ _ _ _ _, by exact uT HB.out⟩


def filigreeref02_Norm.f (k : Nat) (a0_0 : Bool) (l0_1 : List Int) : Option (Bool × List Int) := (filigreeref02_make2.f k a0_0 l0_1).bind fun bt446 => (some (bt446.1, bt446.2))
set_option maxHeartbeats 8000000 in
set_option maxRecDepth 100000 in
theorem filigreeref02_Norm.calls (k : Nat) (a0_0 : Bool) (A0_1 : Option Addr) (c0_1 : Nat) (l0_1 : List Int) (r1 : Bool) (r2 : List Int) (w : World) (hr0_1 : Kd.C (Kd.int .u32) w A0_1 l0_1.length l0_1) (hc0_1 : l0_1.length ≤ c0_1) (h : filigreeref02_Norm.f k a0_0 l0_1 = some (r1, r2)) :
    Calls Tryd.prog 24 #[.agg #[.bool a0_0, .slice A0_1 l0_1.length c0_1]] w fun e w' => ∃ v1_ : Value, e = .returned (.agg #[.bool r1, v1_]) ∧ Kd.R (Kd.int .u32) 58 w' w.heap.size (fun _ => True) v1_ r2 ∧ Below w.heap.size w w' := by
  have hu24 := Tryd.underlying24
  have HR0_1 := zMk hr0_1
  have HC0_1 := zMk hc0_1
  clear hr0_1 hc0_1
  have HB := zMk (Below.refl w.heap.size w)
  have H : ((filigreeref02_make2.f k a0_0 l0_1).bind fun bt446 => (some (bt446.1, bt446.2))) = some (r1, r2) := h
  clear h
  replace H := bnd H
  obtain ⟨⟨t446, t447⟩, A20, H⟩ := H
  replace H : (some (t446, t447)) = some (r1, r2) := H
  have A2 := zMk A20
  clear A20
  simp only [Option.some.injEq, Prod.mk.injEq] at H
  obtain ⟨rfl, rfl⟩ := H
  go_enter Tryd.func24, Tryd.ntmps24
  go_wp2_with (first |  ((with_reducible refine gate_dst (N := 1) rfl ?_); refine box_event ?hg (N := 1) ?hd (cs := #[.bool a0_0, .slice A0_1 l0_1.length c0_1]) (t := 24) ?hr ?_; (case hd => rfl); (case hg => rfl); (case hr => first |  (go_simp; done)|  (go_simp; rfl)|  (go_simp; rw [show ∀ x : Int, IntKind.u32.wrap (IntKind.u8.wrap x) = x % 256 from fun x => (by show (x % 256) % 4294967296 = x % 256; omega)])); intro gb444 hg w3 hbox hb; have BK444 := zMk (hbox); have GW444 := zMk ((by rw [hg]; exact (zBs (by exact uT HB.out)) : w.heap.size ≤ gb444)); have GE444 := zMk ((by rw [hg]; exact (zBs (by exact uT HB.out)) : w.heap.size ≤ gb444)); have IGE444 := ownGe GE444.out; replace HB := zMk (zBt (by exact uT HB.out) hb); clear hb hbox hg)|  ((with_reducible refine gate_dst (N := 2) rfl ?_); refine box_event ?hg (N := 2) ?hd (cs := #[.bool false, .slice none 0 0]) (t := 24) ?hr ?_; (case hd => rfl); (case hg => rfl); (case hr => first |  (go_simp; done)|  (go_simp; rfl)|  (go_simp; rw [show ∀ x : Int, IntKind.u32.wrap (IntKind.u8.wrap x) = x % 256 from fun x => (by show (x % 256) % 4294967296 = x % 256; omega)])); intro gb445 hg w4 hbox hb; have BK445 := zMk (hbox); have GW445 := zMk ((by rw [hg]; exact (zBs (by exact uT HB.out)) : w.heap.size ≤ gb445)); have GE445 := zMk ((by rw [hg]; exact (zBs (by exact uT HB.out)) : w.heap.size ≤ gb445)); have IGE445 := ownGe GE445.out; replace HB := zMk (zBt (by exact uT HB.out) hb); have NB444_445 := zMk ((by rw [hg]; exact Nat.ne_of_lt (blk_lt (g := gb444) (o := .cells #[.bool a0_0, .slice A0_1 l0_1.length c0_1] 24 (0, 0)) (by (with_reducible repeat (first |  refine zKn ?_ _|  refine zKd ?_|  refine zKa ?_ _)); exact BK444.out)) : gb444 ≠ gb445)); have NB445_444 := zMk ((by rw [hg]; exact Nat.ne_of_gt (blk_lt (g := gb444) (o := .cells #[.bool a0_0, .slice A0_1 l0_1.length c0_1] 24 (0, 0)) (by (with_reducible repeat (first |  refine zKn ?_ _|  refine zKd ?_|  refine zKa ?_ _)); exact BK444.out)) : gb445 ≠ gb444)); replace BK444 := zMk (zKb (g := gb444) (o := .cells #[.bool a0_0, .slice A0_1 l0_1.length c0_1] 24 (0, 0)) (by (with_reducible repeat (first |  refine zKn ?_ _|  refine zKd ?_|  refine zKa ?_ _)); exact BK444.out) hb); clear hb hbox hg; have hnb5 := NB444_445.out; have hnc5 := NB445_444.out; have hcz6_0 : w4.cell? ⟨gb444, 0, none⟩ = some (.bool a0_0) := (zKc BK444.out 0).trans rfl; have hcz6_1 : w4.cell? ⟨gb444, 1, none⟩ = some (.slice A0_1 l0_1.length c0_1) := (zKc BK444.out 1).trans rfl; have hfz6_0 := zKf BK444.out 0; have hfz6_1 := zKf BK444.out 1)|  ((with_reducible refine gate_callee (f := 38) rfl ?_); refine goesL_ (some 7) rfl rfl Tryd.func38 (by kernel_rfl) rfl #[.bool a0_0, .slice A0_1 l0_1.length c0_1] rfl (by (try simp only [zMa, zMc, zMn]); first |  done|  rfl|  (simp only [zLd, zLt]; rfl)) ?_; (with_reducible refine (filigreeref02_make2.calls k a0_0 _ _ l0_1 t446 t447 _ ?side1 ?side2 A2.out).mono ?_); (case side1 => repeat (first |  exact (Kd.C_below HR0_1.out HB.out)|  (with_reducible refine zCa ?_ _)|  (with_reducible refine zCn ?_ _)|  (with_reducible refine zCd ?_))); (case side2 => exact HC0_1.out); rintro e w7 ⟨v448, rfl, ho0, hb⟩; refine ⟨_, rfl, ?_⟩; have HO449 := zMk (zRl ho0 (zBs (by exact uT HB.out))); replace BK444 := zMk (zKb (g := gb444) (o := .cells #[.bool a0_0, .slice A0_1 l0_1.length c0_1] 24 (0, 0)) (by (with_reducible repeat (first |  refine zKn ?_ _|  refine zKd ?_|  refine zKa ?_ _)); exact BK444.out) hb); replace BK445 := zMk (zKb (g := gb445) (o := .cells #[.bool false, .slice none 0 0] 24 (0, 0)) (by (with_reducible repeat (first |  refine zKn ?_ _|  refine zKd ?_|  refine zKa ?_ _)); exact BK445.out) hb); replace HB := zMk (zBt (by exact uT HB.out) hb); (try clear hb); (try clear hb2); (try clear hk); (try clear hi); (try clear ho0); have hcz8_0 : w7.cell? ⟨gb445, 0, none⟩ = some (.bool false) := (zKc BK445.out 0).trans rfl; have hcz8_1 : w7.cell? ⟨gb445, 1, none⟩ = some (.slice none 0 0) := (zKc BK445.out 1).trans rfl; have hfz8_0 := zKf BK445.out 0; have hfz8_1 := zKf BK445.out 1; obtain ⟨Ao9, co9, eo9⟩ := zRs HO449.out; subst eo9))
  refine bodyPost_ret (results_cell_row rfl _ _ gb445 24 #[.bool t446, .slice Ao9 t447.length co9] (0, 0) _ rfl (by (with_reducible repeat (first | refine zKn ?_ _ | refine zKd ?_ | refine zKa ?_ _)); refine blk_put (cs := #[.bool t446, .slice none 0 0]) ?_ 1 _ rfl; (with_reducible repeat (first | refine zKn ?_ _ | refine zKd ?_ | refine zKa ?_ _)); refine blk_put (cs := #[.bool false, .slice none 0 0]) ?_ 0 _ rfl; (with_reducible repeat (first | refine zKn ?_ _ | refine zKd ?_ | refine zKa ?_ _)); exact BK445.out) Tryd.underlying24 rfl (by kernel_rfl)) rfl ?_
  exact ⟨_, by first | rfl | (simp [errW_none, errW_some] <;> rfl) | (simp [*, errW_none, errW_some] <;> rfl), by (with_reducible repeat (first | apply zRa | apply zRn | apply zRd)); exact zRm (Kd.R_far (p := ⟨gb445, 1, none⟩) (Kd.R_far (p := ⟨gb445, 0, none⟩) (Kd.R_types HO449.out BK445.out (by decide)) (fun _ hk => hk.2) (.bool t446)) (fun _ hk => hk.2) (.slice Ao9 t447.length co9)) (fun _ hk => trivial), by exact uT HB.out⟩


def r1_Cmp.l0 : Nat → List Int → List Int → Int → Option (Int)
  | 0, _, _, _ => none
  | k + 1, x5, x6, x7 => if x7 ≥ 0 then ((r1_at.f x5 x7).bind fun t627 => ((r1_at.f x6 x7).bind fun t628 => (if t627 < t628 then (some (-1)) else ((r1_at.f x5 x7).bind fun t629 => ((r1_at.f x6 x7).bind fun t630 => (if t629 > t630 then (some 1) else (r1_Cmp.l0 k x5 x6 (wrap64 (x7 - 1))))))))) else (some 0)
def r1_Cmp.f (k : Nat) (l0 : List Int) (l1 : List Int) : Option (Int) := (r1_bits.f k l0).bind fun t621 => ((r1_bits.f k l1).bind fun t624 => (r1_Cmp.l0 k t621 t624 (wrap64 ((mx (t621.length : Int) (t624.length : Int)) - 1))))
set_option maxHeartbeats 8000000 in
set_option maxRecDepth 100000 in
theorem r1_Cmp.calls (k : Nat) (A0 : Option Addr) (c0 : Nat) (l0 : List Int) (A1 : Option Addr) (c1 : Nat) (l1 : List Int) (r : Int) (w : World) (hr0 : Kd.C (Kd.int .u32) w A0 l0.length l0) (hc0 : l0.length ≤ c0) (hr1 : Kd.C (Kd.int .u32) w A1 l1.length l1) (hc1 : l1.length ≤ c1) (h : r1_Cmp.f k l0 l1 = some r) :
    Calls Tryd.prog 42 #[.slice A0 l0.length c0, .slice A1 l1.length c1] w fun e w' => e = .returned (.int .i64 r) ∧ Below w.heap.size w w' := by
  have HR0 := zMk hr0
  have HC0 := zMk hc0
  clear hr0 hc0
  have HR1 := zMk hr1
  have HC1 := zMk hc1
  clear hr1 hc1
  have HB := zMk (Below.refl w.heap.size w)
  have H : ((r1_bits.f k l0).bind fun t621 => ((r1_bits.f k l1).bind fun t624 => (r1_Cmp.l0 k t621 t624 (wrap64 ((mx (t621.length : Int) (t624.length : Int)) - 1))))) = some r := h
  clear h
  replace H := bnd H
  obtain ⟨t621, A30, H⟩ := H
  have A3 := zMk A30
  clear A30
  replace H := bnd H
  obtain ⟨t624, A40, H⟩ := H
  have A4 := zMk A40
  clear A40
  obtain ⟨ji5, hji5⟩ : ∃ j_ : Int, (mx (t621.length : Int) (t624.length : Int)) = j_ := ⟨_, rfl⟩
  replace H : (r1_Cmp.l0 k t621 t624 (wrap64 ((ji5) - 1))) = some r := by first | (rw [hji5] at H; exact H) | (simp only [hji5] at H ⊢; exact H)
  (try rw [hji5] at A3)
  (try rw [hji5] at A4)
  (try (have hji5l : 0 ≤ ji5 := by (rw [← hji5]; unfold mx; (repeat' split) <;> omega)))
  (try (have hji5m : 0 ≤ ji5 := by omega))
  have hji5_ : (if (t621.length : Int) < (t624.length : Int) then (t624.length : Int) else (t621.length : Int)) = ji5 := hji5
  have hji5_n : (if t621.length < t624.length then (t624.length : Int) else (t621.length : Int)) = ji5 := by rw [← hji5]; simp only [mx, mn, Int.ofNat_lt]
  have H' := zMk H
  clear H
  go_enter Tryd.func42, Tryd.ntmps42
  go_wp2_with (first |  ((with_reducible refine gate_callee (f := 64) rfl ?_); refine goesL_ (some 9) rfl rfl Tryd.func64 (by kernel_rfl) rfl #[.slice A0 l0.length c0] rfl (by (try simp only [zMa, zMc, zMn]); first |  done|  rfl|  (simp only [zLd, zLt]; rfl)) ?_; (with_reducible refine (r1_bits.calls k _ _ l0 t621 _ ?side1 ?side2 A3.out).mono ?_); (case side1 => repeat (first |  exact HR0.out|  (with_reducible refine zCa ?_ _)|  (with_reducible refine zCn ?_ _)|  (with_reducible refine zCd ?_))); (case side2 => exact HC0.out); rintro e w6 ⟨v622, rfl, ho0, hb⟩; refine ⟨_, rfl, ?_⟩; have HO623 := zMk (zRl ho0 (zBs (by exact uT HB.out))); replace HB := zMk (zBt (by exact uT HB.out) hb); (try clear hb); (try clear hb2); (try clear hk); (try clear hi); (try clear ho0))|  ((with_reducible refine gate_callee (f := 64) rfl ?_); refine goesL_ (some 11) rfl rfl Tryd.func64 (by kernel_rfl) rfl #[.slice A1 l1.length c1] rfl (by (try simp only [zMa, zMc, zMn]); first |  done|  rfl|  (simp only [zLd, zLt]; rfl)) ?_; (with_reducible refine (r1_bits.calls k _ _ l1 t624 _ ?side1 ?side2 A4.out).mono ?_); (case side1 => repeat (first |  exact (Kd.C_below HR1.out HB.out)|  (with_reducible refine zCa ?_ _)|  (with_reducible refine zCn ?_ _)|  (with_reducible refine zCd ?_))); (case side2 => exact HC1.out); rintro e w7 ⟨v625, rfl, ho0, hb⟩; refine ⟨_, rfl, ?_⟩; have HO626 := zMk (zRl (zRw ho0 (zRt (by exact uR HO623.out))) (zBs (by exact uT HB.out))); replace HO623 := zMk (zRe (by exact uR HO623.out) (zRz ho0) hb); replace HB := zMk (zBt (by exact uT HB.out) hb); (try clear hb); (try clear hb2); (try clear hk); (try clear hi); (try clear ho0); obtain ⟨Ao8, co8, eo8⟩ := zRs HO623.out; subst eo8; obtain ⟨Ao9, co9, eo9⟩ := zRs HO626.out; subst eo9))
  go_loopg [7] k (fun kq v7 w' => ∃ (x7_1 : Int), v7 = .int .i64 x7_1 ∧ Aside0 (r1_Cmp.l0 kq t621 t624 x7_1 = some r) ∧ Aside0 (kq ≤ k) ∧ Aside0 (Kd.R (Kd.int .u8) 5 w' w.heap.size (fun k_ => some k_ ≠ ((.slice Ao9 t624.length co9) : Value).ownBlock) (.slice Ao8 t621.length co8) t621) ∧ Aside0 (Kd.R (Kd.int .u8) 5 w' w.heap.size (fun k_ => some k_ ≠ ((.slice Ao8 t621.length co8) : Value).ownBlock) (.slice Ao9 t624.length co9) t624) ∧ Aside0 (Below w.heap.size w w'))
  case atStart => exact ⟨(wrap64 ((ji5) - 1)), (by first | rfl | (simp; done) | (simp only [← hji5] <;> (first | rfl | simp)) | (simp [*]; done)), H', ⟨Nat.le_refl _⟩, ⟨by (with_reducible repeat (first | apply zRa | apply zRn | apply zRd)); exact zRm HO623.out (fun _ hk => hk.2)⟩, ⟨by (with_reducible repeat (first | apply zRa | apply zRn | apply zRd)); exact zRm HO626.out (fun _ hk => hk.2)⟩, ⟨by exact uT HB.out⟩⟩
  clear H'
  obtain ⟨x7_1, rfl, HA, HK1, HO_5, HO_6, HB⟩ := hrel
  rcases gk with _ | k1
  · exact absurd HA.out (by simp [r1_Cmp.l0])
  have H := HA.out
  clear HA
  simp only [r1_Cmp.l0] at H
  by_cases c10 : x7_1 ≥ 0
  · rw [if_pos c10] at H
    have c10b0 : decide (0 ≤ x7_1) = true := decide_eq_true c10
    clear c10
    replace H := bnd H
    obtain ⟨t627, A110, H⟩ := H
    have A11 := zMk A110
    clear A110
    replace H := bnd H
    obtain ⟨t628, A120, H⟩ := H
    have A12 := zMk A120
    clear A120
    by_cases c13 : t627 < t628
    · rw [if_pos c13] at H
      have c13b0 : decide (t627 < t628) = true := decide_eq_true c13
      clear c13
      obtain rfl := zOi H
      go_wp2_with (first | ((with_reducible refine gate_callee (f := 68) rfl ?_); refine goesL_ (some 24) rfl rfl Tryd.func68 (by kernel_rfl) rfl #[.slice Ao8 t621.length co8, .int .i64 x7_1] rfl (by (try simp only [zMa, zMc, zMn]); first | done | rfl | (simp only [zLd, zLt]; rfl)) ?_; (with_reducible refine (r1_at.calls _ _ t621 x7_1 t627 _ ?side1 ?side2 A11.out).mono ?_); (case side1 => exact uC (zRr HO_5.out).2.2); (case side2 => exact (zRr HO_5.out).2.1); rintro e w' ⟨rfl, ⟨nd, rfl⟩⟩; refine ⟨_, rfl, ?_⟩) | ((with_reducible refine gate_callee (f := 68) rfl ?_); refine goesL_ (some 27) rfl rfl Tryd.func68 (by kernel_rfl) rfl #[.slice Ao9 t624.length co9, .int .i64 x7_1] rfl (by (try simp only [zMa, zMc, zMn]); first | done | rfl | (simp only [zLd, zLt]; rfl)) ?_; (with_reducible refine (r1_at.calls _ _ t624 x7_1 t628 _ ?side1 ?side2 A12.out).mono ?_); (case side1 => exact uC (zRr HO_6.out).2.2); (case side2 => exact (zRr HO_6.out).2.1); rintro e w' ⟨rfl, ⟨nd, rfl⟩⟩; refine ⟨_, rfl, ?_⟩))
      go_ret
      exact ⟨by first | rfl | (simp [errW_none, errW_some] <;> rfl) | (simp only [← hji5]; first | rfl | (simp [errW_none, errW_some] <;> rfl)) | (simp [*, errW_none, errW_some] <;> rfl), by exact uT HB.out⟩
    · rw [if_neg c13] at H
      have c13b0 : decide (t627 < t628) = false := decide_eq_false c13
      clear c13
      replace H := bnd H
      obtain ⟨t629, A140, H⟩ := H
      have A14 := zMk A140
      clear A140
      replace H := bnd H
      obtain ⟨t630, A150, H⟩ := H
      have A15 := zMk A150
      clear A150
      by_cases c16 : t629 > t630
      · rw [if_pos c16] at H
        have c16b0 : decide (t630 < t629) = true := decide_eq_true c16
        clear c16
        obtain rfl := zOi H
        go_wp2_with (first | ((with_reducible refine gate_callee (f := 68) rfl ?_); refine goesL_ (some 24) rfl rfl Tryd.func68 (by kernel_rfl) rfl #[.slice Ao8 t621.length co8, .int .i64 x7_1] rfl (by (try simp only [zMa, zMc, zMn]); first | done | rfl | (simp only [zLd, zLt]; rfl)) ?_; (with_reducible refine (r1_at.calls _ _ t621 x7_1 t627 _ ?side1 ?side2 A11.out).mono ?_); (case side1 => exact uC (zRr HO_5.out).2.2); (case side2 => exact (zRr HO_5.out).2.1); rintro e w' ⟨rfl, ⟨nd, rfl⟩⟩; refine ⟨_, rfl, ?_⟩) | ((with_reducible refine gate_callee (f := 68) rfl ?_); refine goesL_ (some 27) rfl rfl Tryd.func68 (by kernel_rfl) rfl #[.slice Ao9 t624.length co9, .int .i64 x7_1] rfl (by (try simp only [zMa, zMc, zMn]); first | done | rfl | (simp only [zLd, zLt]; rfl)) ?_; (with_reducible refine (r1_at.calls _ _ t624 x7_1 t628 _ ?side1 ?side2 A12.out).mono ?_); (case side1 => exact uC (zRr HO_6.out).2.2); (case side2 => exact (zRr HO_6.out).2.1); rintro e w' ⟨rfl, ⟨nd, rfl⟩⟩; refine ⟨_, rfl, ?_⟩) | ((with_reducible refine gate_callee (f := 68) rfl ?_); refine goesL_ (some 31) rfl rfl Tryd.func68 (by kernel_rfl) rfl #[.slice Ao8 t621.length co8, .int .i64 x7_1] rfl (by (try simp only [zMa, zMc, zMn]); first | done | rfl | (simp only [zLd, zLt]; rfl)) ?_; (with_reducible refine (r1_at.calls _ _ t621 x7_1 t629 _ ?side1 ?side2 A14.out).mono ?_); (case side1 => exact uC (zRr HO_5.out).2.2); (case side2 => exact (zRr HO_5.out).2.1); rintro e w' ⟨rfl, ⟨nd, rfl⟩⟩; refine ⟨_, rfl, ?_⟩) | ((with_reducible refine gate_callee (f := 68) rfl ?_); refine goesL_ (some 34) rfl rfl Tryd.func68 (by kernel_rfl) rfl #[.slice Ao9 t624.length co9, .int .i64 x7_1] rfl (by (try simp only [zMa, zMc, zMn]); first | done | rfl | (simp only [zLd, zLt]; rfl)) ?_; (with_reducible refine (r1_at.calls _ _ t624 x7_1 t630 _ ?side1 ?side2 A15.out).mono ?_); (case side1 => exact uC (zRr HO_6.out).2.2); (case side2 => exact (zRr HO_6.out).2.1); rintro e w' ⟨rfl, ⟨nd, rfl⟩⟩; refine ⟨_, rfl, ?_⟩))
        go_ret
        exact ⟨by first | rfl | (simp [errW_none, errW_some] <;> rfl) | (simp only [← hji5]; first | rfl | (simp [errW_none, errW_some] <;> rfl)) | (simp [*, errW_none, errW_some] <;> rfl), by exact uT HB.out⟩
      · rw [if_neg c16] at H
        have c16b0 : decide (t630 < t629) = false := decide_eq_false c16
        clear c16
        have H' := zMk H
        clear H
        go_wp2_with (first | ((with_reducible refine gate_callee (f := 68) rfl ?_); refine goesL_ (some 24) rfl rfl Tryd.func68 (by kernel_rfl) rfl #[.slice Ao8 t621.length co8, .int .i64 x7_1] rfl (by (try simp only [zMa, zMc, zMn]); first | done | rfl | (simp only [zLd, zLt]; rfl)) ?_; (with_reducible refine (r1_at.calls _ _ t621 x7_1 t627 _ ?side1 ?side2 A11.out).mono ?_); (case side1 => exact uC (zRr HO_5.out).2.2); (case side2 => exact (zRr HO_5.out).2.1); rintro e w' ⟨rfl, ⟨nd, rfl⟩⟩; refine ⟨_, rfl, ?_⟩) | ((with_reducible refine gate_callee (f := 68) rfl ?_); refine goesL_ (some 27) rfl rfl Tryd.func68 (by kernel_rfl) rfl #[.slice Ao9 t624.length co9, .int .i64 x7_1] rfl (by (try simp only [zMa, zMc, zMn]); first | done | rfl | (simp only [zLd, zLt]; rfl)) ?_; (with_reducible refine (r1_at.calls _ _ t624 x7_1 t628 _ ?side1 ?side2 A12.out).mono ?_); (case side1 => exact uC (zRr HO_6.out).2.2); (case side2 => exact (zRr HO_6.out).2.1); rintro e w' ⟨rfl, ⟨nd, rfl⟩⟩; refine ⟨_, rfl, ?_⟩) | ((with_reducible refine gate_callee (f := 68) rfl ?_); refine goesL_ (some 31) rfl rfl Tryd.func68 (by kernel_rfl) rfl #[.slice Ao8 t621.length co8, .int .i64 x7_1] rfl (by (try simp only [zMa, zMc, zMn]); first | done | rfl | (simp only [zLd, zLt]; rfl)) ?_; (with_reducible refine (r1_at.calls _ _ t621 x7_1 t629 _ ?side1 ?side2 A14.out).mono ?_); (case side1 => exact uC (zRr HO_5.out).2.2); (case side2 => exact (zRr HO_5.out).2.1); rintro e w' ⟨rfl, ⟨nd, rfl⟩⟩; refine ⟨_, rfl, ?_⟩) | ((with_reducible refine gate_callee (f := 68) rfl ?_); refine goesL_ (some 34) rfl rfl Tryd.func68 (by kernel_rfl) rfl #[.slice Ao9 t624.length co9, .int .i64 x7_1] rfl (by (try simp only [zMa, zMc, zMn]); first | done | rfl | (simp only [zLd, zLt]; rfl)) ?_; (with_reducible refine (r1_at.calls _ _ t624 x7_1 t630 _ ?side1 ?side2 A15.out).mono ?_); (case side1 => exact uC (zRr HO_6.out).2.2); (case side2 => exact (zRr HO_6.out).2.1); rintro e w' ⟨rfl, ⟨nd, rfl⟩⟩; refine ⟨_, rfl, ?_⟩))
        go_roundg k1
        case measure => have := HK1.out; omega
        case rel => exact ⟨(wrap64 (x7_1 - 1)), (by first | rfl | (simp; done) | (simp [*]; done)), H', ⟨by have := HK1.out; omega⟩, ⟨by exact uR HO_5.out⟩, ⟨by exact uR HO_6.out⟩, ⟨by exact uT HB.out⟩⟩
  · rw [if_neg c10] at H
    have c10b0 : decide (0 ≤ x7_1) = false := decide_eq_false c10
    clear c10
    obtain rfl := zOi H
    go_wp2
    go_ret
    exact ⟨by first | rfl | (simp [errW_none, errW_some] <;> rfl) | (simp only [← hji5]; first | rfl | (simp [errW_none, errW_some] <;> rfl)) | (simp [*, errW_none, errW_some] <;> rfl), by exact uT HB.out⟩


def r1_less.l0 : Nat → List Int → List Int → List Int → Int → Int → Option (List Int)
  | 0, _, _, _, _, _ => none
  | k + 1, x0, x1, x5, x6, x7 => if x7 < (mx (x0.length : Int) (x1.length : Int)) then ((r1_at.f x0 x7).bind fun t631 => ((r1_at.f x1 x7).bind fun t632 => (if x5.length < 140737488355328 then (r1_less.l0 k x0 x1 (x5 ++ [Go.bits .and .u8 ((((((2 + t631) % 256) - t632) % 256) - x6) % 256) 1]) ((1 - (((((((2 + t631) % 256) - t632) % 256) - x6) % 256) / 2)) % 256) (wrap64 (x7 + 1))) else (none)))) else (some x5)
def r1_less.f (k : Nat) (l0 : List Int) (l1 : List Int) : Option (List Int) := r1_less.l0 k l0 l1 ([] : List Int) 0 0
set_option maxHeartbeats 8000000 in
set_option maxRecDepth 100000 in
theorem r1_less.calls (k : Nat) (A0 : Option Addr) (c0 : Nat) (l0 : List Int) (A1 : Option Addr) (c1 : Nat) (l1 : List Int) (r : List Int) (w : World) (hr0 : Kd.C (Kd.int .u8) w A0 l0.length l0) (hc0 : l0.length ≤ c0) (hr1 : Kd.C (Kd.int .u8) w A1 l1.length l1) (hc1 : l1.length ≤ c1) (h : r1_less.f k l0 l1 = some r) :
    Calls Tryd.prog 69 #[.slice A0 l0.length c0, .slice A1 l1.length c1] w fun e w' => ∃ v0_ : Value, e = .returned (v0_) ∧ Kd.R (Kd.int .u8) 5 w' w.heap.size (fun _ => True) v0_ r ∧ Below w.heap.size w w' := by
  have HR0 := zMk hr0
  have HC0 := zMk hc0
  clear hr0 hc0
  have HR1 := zMk hr1
  have HC1 := zMk hc1
  clear hr1 hc1
  have HB := zMk (Below.refl w.heap.size w)
  have H : (r1_less.l0 k l0 l1 ([] : List Int) 0 0) = some r := h
  clear h
  have H' := zMk H
  clear H
  go_enter Tryd.func69, Tryd.ntmps69
  go_wp2
  go_loopg [5, 6, 7] k (fun kq v5 v6 v7 w' => ∃ (x5_1 : List Int) (x6_1 : Int) (x7_1 : Int), v6 = .int .u8 x6_1 ∧ v7 = .int .i64 x7_1 ∧ Aside0 (r1_less.l0 kq l0 l1 x5_1 x6_1 x7_1 = some r) ∧ Aside0 (kq ≤ k) ∧ Aside0 (Kd.R (Kd.int .u8) 5 w' w.heap.size (fun _ => True) v5 x5_1) ∧ Aside0 (Below w.heap.size w w'))
  case atStart => exact ⟨(([] : List Int)), (0), (0), (by first | rfl | (simp; done) | (simp [*]; done)), (by first | rfl | (simp; done) | (simp [*]; done)), H', ⟨Nat.le_refl _⟩, ⟨by first | exact Kd.R_nil _ _ _ _ _ | exact Kd.N_nil _ _ _ _ _ | exact Kd.V_nil _ _ _ _ _ | exact Kd.Q_nil _ _ _ _ _ | exact Kd.S_nil _ _ _ _ _⟩, ⟨by exact uT HB.out⟩⟩
  clear H'
  obtain ⟨x5_1, x6_1, x7_1, rfl, rfl, HA, HK1, HO_5, HB⟩ := hrel
  rcases gk with _ | k1
  · exact absurd HA.out (by simp [r1_less.l0])
  have H := HA.out
  clear HA
  simp only [r1_less.l0] at H
  obtain ⟨ji3, hji3⟩ : ∃ j_ : Int, (mx (l0.length : Int) (l1.length : Int)) = j_ := ⟨_, rfl⟩
  replace H : (if x7_1 < (ji3) then ((r1_at.f l0 x7_1).bind fun t631 => ((r1_at.f l1 x7_1).bind fun t632 => (if x5_1.length < 140737488355328 then (r1_less.l0 k1 l0 l1 (x5_1 ++ [Go.bits .and .u8 ((((((2 + t631) % 256) - t632) % 256) - x6_1) % 256) 1]) ((1 - (((((((2 + t631) % 256) - t632) % 256) - x6_1) % 256) / 2)) % 256) (wrap64 (x7_1 + 1))) else (none)))) else (some x5_1)) = some r := by first | (rw [hji3] at H; exact H) | (simp only [hji3] at H ⊢; exact H)
  have hji3_ : (if (l0.length : Int) < (l1.length : Int) then (l1.length : Int) else (l0.length : Int)) = ji3 := hji3
  have hji3_n : (if l0.length < l1.length then (l1.length : Int) else (l0.length : Int)) = ji3 := by rw [← hji3]; simp only [mx, mn, Int.ofNat_lt]
  by_cases c4 : x7_1 < (ji3)
  · rw [if_pos c4] at H
    have c4b0 : decide (x7_1 < (ji3)) = true := decide_eq_true c4
    clear c4
    replace H := bnd H
    obtain ⟨t631, A50, H⟩ := H
    have A5 := zMk A50
    clear A50
    replace H := bnd H
    obtain ⟨t632, A60, H⟩ := H
    have A6 := zMk A60
    clear A60
    by_cases c7 : x5_1.length < 140737488355328
    rotate_left
    · rw [if_neg c7] at H; exact absurd H (by simp)
    rw [if_pos c7] at H
    have LMc7 := zMk c7
    clear c7
    obtain ⟨y633, hy633⟩ : ∃ y_ : List Int, y_ = (x5_1 ++ [Go.bits .and .u8 ((((((2 + t631) % 256) - t632) % 256) - x6_1) % 256) 1]) := ⟨_, rfl⟩
    replace H : (r1_less.l0 k1 l0 l1 y633 ((1 - (((((((2 + t631) % 256) - t632) % 256) - x6_1) % 256) / 2)) % 256) (wrap64 (x7_1 + 1))) = some r := by first | (rw [hy633]; with_reducible exact H) | (have H2_ := (zOb _ _).symm.trans H; rw [hy633]; with_reducible exact H2_) | (have H2_ := (zOb _ _).symm.trans H; with_reducible exact H2_) | with_reducible exact H | (rw [hy633]; exact H) | exact H
    have Ny633 := zMk hy633
    clear hy633
    have H' := zMk H
    clear H
    go_wp2_with (first |  ((with_reducible refine gate_callee (f := 68) rfl ?_); refine goesL_ (some 20) rfl rfl Tryd.func68 (by kernel_rfl) rfl #[.slice A0 l0.length c0, .int .i64 x7_1] rfl (by (try simp only [zMa, zMc, zMn]); first |  done|  rfl|  (simp only [zLd, zLt]; rfl)) ?_; (with_reducible refine (r1_at.calls _ _ l0 x7_1 t631 _ ?side1 ?side2 A5.out).mono ?_); (case side1 => repeat (first |  exact (Kd.C_below HR0.out HB.out)|  (with_reducible refine zCa ?_ _)|  (with_reducible refine zCn ?_ _)|  (with_reducible refine zCd ?_))); (case side2 => exact HC0.out); rintro e w' ⟨rfl, ⟨nd, rfl⟩⟩; refine ⟨_, rfl, ?_⟩)|  ((with_reducible refine gate_callee (f := 68) rfl ?_); refine goesL_ (some 24) rfl rfl Tryd.func68 (by kernel_rfl) rfl #[.slice A1 l1.length c1, .int .i64 x7_1] rfl (by (try simp only [zMa, zMc, zMn]); first |  done|  rfl|  (simp only [zLd, zLt]; rfl)) ?_; (with_reducible refine (r1_at.calls _ _ l1 x7_1 t632 _ ?side1 ?side2 A6.out).mono ?_); (case side1 => repeat (first |  exact (Kd.C_below HR1.out (by exact uT HB.out))|  (with_reducible refine zCa ?_ _)|  (with_reducible refine zCn ?_ _)|  (with_reducible refine zCd ?_))); (case side2 => exact HC1.out); rintro e w' ⟨rfl, ⟨nd, rfl⟩⟩; refine ⟨_, rfl, ?_⟩)|  ((with_reducible refine gate_builtin (b := .append) (xs := #[.tmp 28, .tmp 31]) rfl ?_); at_builtin; refine Kd.R_append (Kd.int .u8) (w0 := w) w.heap.size rfl (.tmp 28) (.tmp 31) 67 5 (.int .u8 0) 1 rfl Tryd.underlying67 info5 rfl (by decide) (by omega) u5 x5_1 (Go.bits .and .u8 ((2 + t631 - t632 - x6_1) % 256) 1) [.int .u8 (Go.bits .and .u8 ((2 + t631 - t632 - x6_1) % 256) 1)] (fun _ => True) (fun _ => False) rfl rfl ?aP (fun _ hk => hk.elim) ?aF ?aO ?aB ?aS ?aL ?_; (case aP => exact rfl); (case aB => exact (by exact uT HB.out)); (case aF => exact (fun _ _ => trivial)); (case aO => exact (by exact uR HO_5.out)); (case aS => exact (zBs (by exact uT HB.out))); (case aL => have := LMc7.out; omega); intro v634 w8 ho hb hg hat; rw [show ((2 + t631 - t632 - x6_1) % 256) = ((((((2 + t631) % 256) - t632) % 256) - x6_1) % 256) from by omega] at ho; rw [← Ny633.out] at ho; replace HB := zMk (hb); have HO635 := zMk (ho); clear HO_5 ho hb hg hat))
    go_roundg k1
    case measure => have := HK1.out; omega
    case rel => exact ⟨(y633), ((1 - (((((((2 + t631) % 256) - t632) % 256) - x6_1) % 256) / 2)) % 256), (wrap64 (x7_1 + 1)), (by first | rfl | (simp; done) | (simp [*]; done)), (by first | rfl | (simp; done) | (simp [*]; done)), H', ⟨by have := HK1.out; omega⟩, ⟨by exact uR HO635.out⟩, ⟨by exact uT HB.out⟩⟩
  · rw [if_neg c4] at H
    have c4b0 : decide (x7_1 < (ji3)) = false := decide_eq_false c4
    clear c4
    obtain rfl := zOi H
    go_wp2
    go_ret
    exact ⟨_, by first | rfl | (simp [errW_none, errW_some] <;> rfl) | (simp only [← hji3]; first | rfl | (simp [errW_none, errW_some] <;> rfl)) | (simp [*, errW_none, errW_some] <;> rfl), by exact uR HO_5.out, by exact uT HB.out⟩


def r1_Sub.f (k : Nat) (l0 : List Int) (l1 : List Int) : Option (List Int × Int) := (r1_Cmp.f k l0 l1).bind fun t636 => (if t636 < 0 then (some (([] : List Int), 17)) else ((r1_bits.f k l0).bind fun t637 => ((r1_bits.f k l1).bind fun t640 => ((r1_less.f k t637 t640).bind fun t643 => ((r1_limbs.f k t643).bind fun t646 => (some (t646, 0)))))))
set_option maxHeartbeats 8000000 in
set_option maxRecDepth 100000 in
theorem r1_Sub.calls (k : Nat) (A0 : Option Addr) (c0 : Nat) (l0 : List Int) (A1 : Option Addr) (c1 : Nat) (l1 : List Int) (r1 : List Int) (r2 : Int) (w : World) (hr0 : Kd.C (Kd.int .u32) w A0 l0.length l0) (hc0 : l0.length ≤ c0) (hr1 : Kd.C (Kd.int .u32) w A1 l1.length l1) (hc1 : l1.length ≤ c1) (h : r1_Sub.f k l0 l1 = some (r1, r2)) :
    Calls Tryd.prog 43 #[.slice A0 l0.length c0, .slice A1 l1.length c1] w fun e w' => ∃ v0_ : Value, e = .returned (.tuple #[v0_, .int .i64 r2]) ∧ Kd.R (Kd.int .u32) 58 w' w.heap.size (fun _ => True) v0_ r1 ∧ Below w.heap.size w w' := by
  have HR0 := zMk hr0
  have HC0 := zMk hc0
  clear hr0 hc0
  have HR1 := zMk hr1
  have HC1 := zMk hc1
  clear hr1 hc1
  have HB := zMk (Below.refl w.heap.size w)
  have H : ((r1_Cmp.f k l0 l1).bind fun t636 => (if t636 < 0 then (some (([] : List Int), 17)) else ((r1_bits.f k l0).bind fun t637 => ((r1_bits.f k l1).bind fun t640 => ((r1_less.f k t637 t640).bind fun t643 => ((r1_limbs.f k t643).bind fun t646 => (some (t646, 0)))))))) = some (r1, r2) := h
  clear h
  replace H := bnd H
  obtain ⟨t636, A30, H⟩ := H
  have A3 := zMk A30
  clear A30
  by_cases c4 : t636 < 0
  · rw [if_pos c4] at H
    have c4b0 : decide (t636 < 0) = true := decide_eq_true c4
    clear c4
    simp only [Option.some.injEq, Prod.mk.injEq] at H
    obtain ⟨rfl, rfl⟩ := H
    go_enter Tryd.func43, Tryd.ntmps43
    go_wp2_with (first |  ((with_reducible refine gate_callee (f := 42) rfl ?_); refine goesL_ (some 8) rfl rfl Tryd.func42 (by kernel_rfl) rfl #[.slice A0 l0.length c0, .slice A1 l1.length c1] rfl (by (try simp only [zMa, zMc, zMn]); first |  done|  rfl|  (simp only [zLd, zLt]; rfl)) ?_; (with_reducible refine (r1_Cmp.calls k _ _ l0 _ _ l1 t636 _ ?side1 ?side2 ?side3 ?side4 A3.out).mono ?_); (case side1 => repeat (first |  exact HR0.out|  (with_reducible refine zCa ?_ _)|  (with_reducible refine zCn ?_ _)|  (with_reducible refine zCd ?_))); (case side2 => exact HC0.out); (case side3 => repeat (first |  exact HR1.out|  (with_reducible refine zCa ?_ _)|  (with_reducible refine zCn ?_ _)|  (with_reducible refine zCd ?_))); (case side4 => exact HC1.out); rintro e w5 ⟨rfl, hb⟩; refine ⟨_, rfl, ?_⟩; replace HB := zMk (zBt (by exact uT HB.out) hb); (try clear hb); (try clear hb2); (try clear hk); (try clear hi)))
    go_ret2
    exact ⟨_, by first | rfl | (simp [errW_none, errW_some] <;> rfl) | (simp [*, errW_none, errW_some] <;> rfl), by first | exact Kd.R_nil _ _ _ _ _ | exact Kd.N_nil _ _ _ _ _ | exact Kd.V_nil _ _ _ _ _ | exact Kd.Q_nil _ _ _ _ _ | exact Kd.S_nil _ _ _ _ _, by exact uT HB.out⟩
  · rw [if_neg c4] at H
    have c4b0 : decide (t636 < 0) = false := decide_eq_false c4
    clear c4
    replace H := bnd H
    obtain ⟨t637, A60, H⟩ := H
    have A6 := zMk A60
    clear A60
    replace H := bnd H
    obtain ⟨t640, A70, H⟩ := H
    have A7 := zMk A70
    clear A70
    replace H := bnd H
    obtain ⟨t643, A80, H⟩ := H
    have A8 := zMk A80
    clear A80
    replace H := bnd H
    obtain ⟨t646, A90, H⟩ := H
    have A9 := zMk A90
    clear A90
    simp only [Option.some.injEq, Prod.mk.injEq] at H
    obtain ⟨rfl, rfl⟩ := H
    go_enter Tryd.func43, Tryd.ntmps43
    go_wp2_with (first |  ((with_reducible refine gate_callee (f := 42) rfl ?_); refine goesL_ (some 8) rfl rfl Tryd.func42 (by kernel_rfl) rfl #[.slice A0 l0.length c0, .slice A1 l1.length c1] rfl (by (try simp only [zMa, zMc, zMn]); first |  done|  rfl|  (simp only [zLd, zLt]; rfl)) ?_; (with_reducible refine (r1_Cmp.calls k _ _ l0 _ _ l1 t636 _ ?side1 ?side2 ?side3 ?side4 A3.out).mono ?_); (case side1 => repeat (first |  exact HR0.out|  (with_reducible refine zCa ?_ _)|  (with_reducible refine zCn ?_ _)|  (with_reducible refine zCd ?_))); (case side2 => exact HC0.out); (case side3 => repeat (first |  exact HR1.out|  (with_reducible refine zCa ?_ _)|  (with_reducible refine zCn ?_ _)|  (with_reducible refine zCd ?_))); (case side4 => exact HC1.out); rintro e w10 ⟨rfl, hb⟩; refine ⟨_, rfl, ?_⟩; replace HB := zMk (zBt (by exact uT HB.out) hb); (try clear hb); (try clear hb2); (try clear hk); (try clear hi))|  ((with_reducible refine gate_callee (f := 64) rfl ?_); refine goesL_ (some 11) rfl rfl Tryd.func64 (by kernel_rfl) rfl #[.slice A0 l0.length c0] rfl (by (try simp only [zMa, zMc, zMn]); first |  done|  rfl|  (simp only [zLd, zLt]; rfl)) ?_; (with_reducible refine (r1_bits.calls k _ _ l0 t637 _ ?side1 ?side2 A6.out).mono ?_); (case side1 => repeat (first |  exact (Kd.C_below HR0.out HB.out)|  (with_reducible refine zCa ?_ _)|  (with_reducible refine zCn ?_ _)|  (with_reducible refine zCd ?_))); (case side2 => exact HC0.out); rintro e w11 ⟨v638, rfl, ho0, hb⟩; refine ⟨_, rfl, ?_⟩; have HO639 := zMk (zRl ho0 (zBs (by exact uT HB.out))); replace HB := zMk (zBt (by exact uT HB.out) hb); (try clear hb); (try clear hb2); (try clear hk); (try clear hi); (try clear ho0))|  ((with_reducible refine gate_callee (f := 64) rfl ?_); refine goesL_ (some 13) rfl rfl Tryd.func64 (by kernel_rfl) rfl #[.slice A1 l1.length c1] rfl (by (try simp only [zMa, zMc, zMn]); first |  done|  rfl|  (simp only [zLd, zLt]; rfl)) ?_; (with_reducible refine (r1_bits.calls k _ _ l1 t640 _ ?side1 ?side2 A7.out).mono ?_); (case side1 => repeat (first |  exact (Kd.C_below HR1.out HB.out)|  (with_reducible refine zCa ?_ _)|  (with_reducible refine zCn ?_ _)|  (with_reducible refine zCd ?_))); (case side2 => exact HC1.out); rintro e w12 ⟨v641, rfl, ho0, hb⟩; refine ⟨_, rfl, ?_⟩; have HO642 := zMk (zRl (zRw ho0 (zRt (by exact uR HO639.out))) (zBs (by exact uT HB.out))); replace HO639 := zMk (zRe (by exact uR HO639.out) (zRz ho0) hb); replace HB := zMk (zBt (by exact uT HB.out) hb); (try clear hb); (try clear hb2); (try clear hk); (try clear hi); (try clear ho0); obtain ⟨Ao13, co13, eo13⟩ := zRs HO639.out; subst eo13; obtain ⟨Ao14, co14, eo14⟩ := zRs HO642.out; subst eo14)|  ((with_reducible refine gate_callee (f := 69) rfl ?_); refine goesL_ (some 14) rfl rfl Tryd.func69 (by kernel_rfl) rfl #[.slice Ao13 t637.length co13, .slice Ao14 t640.length co14] rfl (by (try simp only [zMa, zMc, zMn]); first |  done|  rfl|  (simp only [zLd, zLt]; rfl)) ?_; (with_reducible refine (r1_less.calls k _ _ t637 _ _ t640 t643 _ ?side1 ?side2 ?side3 ?side4 A8.out).mono ?_); (case side1 => exact uC (zRr HO639.out).2.2); (case side2 => exact (zRr HO639.out).2.1); (case side3 => exact uC (zRr HO642.out).2.2); (case side4 => exact (zRr HO642.out).2.1); rintro e w15 ⟨v644, rfl, ho0, hb⟩; refine ⟨_, rfl, ?_⟩; have HO645 := zMk (zRl (zRw (zRw ho0 (zRt (by exact uR HO639.out))) (zRt (by exact uR HO642.out))) (zBs (by exact uT HB.out))); replace HO639 := zMk (zRe (by exact uR HO639.out) (zRz ho0) hb); replace HO642 := zMk (zRe (by exact uR HO642.out) (zRz ho0) hb); replace HB := zMk (zBt (by exact uT HB.out) hb); (try clear hb); (try clear hb2); (try clear hk); (try clear hi); (try clear ho0); obtain ⟨Ao16, co16, eo16⟩ := zRs HO645.out; subst eo16)|  ((with_reducible refine gate_callee (f := 65) rfl ?_); refine goesL_ (some 15) rfl rfl Tryd.func65 (by kernel_rfl) rfl #[.slice Ao16 t643.length co16] rfl (by (try simp only [zMa, zMc, zMn]); first |  done|  rfl|  (simp only [zLd, zLt]; rfl)) ?_; (with_reducible refine (r1_limbs.calls k _ _ t643 t646 _ ?side1 ?side2 A9.out).mono ?_); (case side1 => exact uC (zRr HO645.out).2.2); (case side2 => exact (zRr HO645.out).2.1); rintro e w17 ⟨v647, rfl, ho0, hb⟩; refine ⟨_, rfl, ?_⟩; replace HO639 := zMk (zRb (by exact uR HO639.out) hb); replace HO642 := zMk (zRb (by exact uR HO642.out) hb); replace HO645 := zMk (zRb (by exact uR HO645.out) hb); have HO648 := zMk (zRl ho0 (zBs (by exact uT HB.out))); replace HB := zMk (zBt (by exact uT HB.out) hb); (try clear hb); (try clear hb2); (try clear hk); (try clear hi); (try clear ho0)))
    go_ret2
    exact ⟨_, by first | rfl | (simp [errW_none, errW_some] <;> rfl) | (simp [*, errW_none, errW_some] <;> rfl), by exact uR HO648.out, by exact uT HB.out⟩

end Go.Proofs.YtnjmnicgknggfaaDoor.E
