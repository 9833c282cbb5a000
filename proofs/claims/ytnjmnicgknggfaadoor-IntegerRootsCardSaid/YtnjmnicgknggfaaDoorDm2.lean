/- Lemmas for the statement: the walks of the functions that it reaches, and plain laws. -/
import Derived.Test.YtnjmnicgknggfaaDoorDm1
import Derived.KernelRfl
import Derived.OpenShut
set_option linter.unusedVariables false
set_option linter.unusedSimpArgs false
set_option maxHeartbeats 8000000
set_option maxRecDepth 100000
namespace Go.Proofs.YtnjmnicgknggfaaDoor.D
open Go Go.RowKit Go.Proofs.YtnjmnicgknggfaaDoorW.PrintWords Go.Proofs.YtnjmnicgknggfaaDoorW.PrintLast Go.Proofs.YtnjmnicgknggfaaDoorW.PrintMore
attribute [local go_sem] max2_int min2_int max_two min_two max_three min_three max_four min_four
open Go.Proofs.YtnjmnicgknggfaaDoorW.PrintWords.Kd renaming R_alloc → zRa, R_drewN → zRn, R_drew → zRd, V_alloc → zVa, V_drewN → zVn, V_drew → zVd, V_below → zVb, C_alloc → zCa, C_drewN → zCn, C_drew → zCd, R_mono → zRm, V_mono → zVm, at_int → zAi, R_elder' → zRe, R_lower → zRl, R_new' → zRw, R_lt → zRt, R_below → zRb, R_base → zRz, R_reads' → zRr, R_slice → zRs, V_elder' → zVe, V_lower → zVl, V_slice → zVs, V_reads' → zVr
open Go.Proofs.YtnjmnicgknggfaaDoorW.PrintWords renaming pw_below_drewN → zBn, below_alloc → zBa, below_drew1 → zBd, below_size → zBs, below_step → zBt, blk_drewN → zKn, blk_drew → zKd, blk_alloc → zKa, blk_below → zKb, blk_cell → zKc, blk_frozen → zKf
open List renaming setIfInBounds_toArray → zSa, set_cons_zero → zSb, set_cons_succ → zSc, length_drop → zLd, length_take → zLt, map_toArray → zMa, map_cons → zMc, map_nil → zMn, length_cons → zLc, length_nil → zLn
open Go.Proofs.YtnjmnicgknggfaaDoorW.PrintWords.Aside0 renaming mk → zMk
open Option renaming bind_eq_some_iff → zBi, bind_some → zOb
open Option.some renaming inj → zOi
open Int renaming toNat_natCast → zTn

def n_Norm.f (l0 : List Int) : Option (List Int) := (n_cut.f l0).bind fun t128 => ((slices_Clone_uint32_uint32.f t128).bind fun t131 => (some t131))
theorem n_Norm.calls (A0 : Option Addr) (c0 : Nat) (l0 : List Int) (r : List Int) (w : World) (hr0 : Kd.C (Kd.int .u32) w A0 l0.length l0) (hc0 : l0.length ≤ c0) (h : n_Norm.f l0 = some r) :
    Calls Tryd.prog 57 #[.slice A0 l0.length c0] w fun e w' => ∃ v0_ : Value, e = .returned (v0_) ∧ Kd.R (Kd.int .u32) 58 w' w.heap.size (fun _ => True) v0_ r ∧ Below w.heap.size w w' := by
  have HR0 := zMk hr0
  have HC0 := zMk hc0
  clear hr0 hc0
  have HB := zMk (Below.refl w.heap.size w)
  have H : ((n_cut.f l0).bind fun t128 => ((slices_Clone_uint32_uint32.f t128).bind fun t131 => (some t131))) = some r := h
  clear h
  replace H := bnd H
  obtain ⟨t128, A20, H⟩ := H
  have A2 := zMk A20
  clear A20
  replace H := bnd H
  obtain ⟨t131, A30, H⟩ := H
  have A3 := zMk A30
  clear A30
  obtain rfl := zOi H
  go_enter Tryd.func57, Tryd.ntmps57
  go_wp2_with (first | ((with_reducible refine gate_callee (f := 56) rfl ?_); refine goesL_ (some 4) rfl rfl Tryd.func56 (by kernel_rfl) rfl #[.slice A0 l0.length c0] rfl (by (try simp only [zMa, zMc, zMn]); first |  done|  rfl|  (simp only [zLd, zLt]; rfl)) ?_; (with_reducible refine (n_cut.calls (fun k_ => k_ < w.heap.size) _ _ l0 t128 _ ?side1 A2.out).mono ?_); (case side1 => exact Kd.V_mk HC0.out (Kd.F_below (Kd.C_F (Kd.heap_int .u32) HR0.out) (by exact uT HB.out))); rintro e w4 ⟨v129, rfl, ho0, hb⟩; refine ⟨_, rfl, ?_⟩; have HO130 := zMk (zVl (zVm (ok' := fun k_ => True) ho0 (fun k_ hk_ => trivial)) (zBs (by exact uT HB.out))); replace HB := zMk (zBt (by exact uT HB.out) hb); obtain ⟨Ao5, co5, eo5⟩ := zVs HO130.out; subst eo5)|((with_reducible refine gate_callee (f := 78) rfl ?_); refine goesL_ (some 5) rfl rfl Tryd.func78 (by kernel_rfl) rfl #[.slice Ao5 t128.length co5] rfl (by (try simp only [zMa, zMc, zMn]); first |  done|  rfl|  (simp only [zLd, zLt]; rfl)) ?_; (with_reducible refine (slices_Clone_uint32_uint32.calls _ _ t128 t131 _ ?side1 ?side2 A3.out).mono ?_); (case side1 => exact uC (zVr HO130.out).2.2); (case side2 => exact (zVr HO130.out).2.1); rintro e w6 ⟨v132, rfl, ho0, hb⟩; refine ⟨_, rfl, ?_⟩; replace HO130 := zMk (zVe (by exact uV HO130.out) (zRz ho0) hb); have HO133 := zMk (zRl ho0 (zBs (by exact uT HB.out))); replace HB := zMk (zBt (by exact uT HB.out) hb)))
  go_ret
  exact ⟨_, by first | rfl | (simp [errW_none, errW_some] <;> rfl) | (simp [*, errW_none, errW_some] <;> rfl), by exact uR HO133.out, by exact uT HB.out⟩


def bits_Sub32.f (a0 : Int) (a1 : Int) (a2 : Int) : Option (Int × Int) := some ((((a0 - a1) % 4294967296) - a2) % 4294967296, (Go.bits .or .u32 (Go.bits .and .u32 (Go.bits .xor .u32 4294967295 a0) a1) (Go.bits .and .u32 (Go.bits .xor .u32 4294967295 (Go.bits .xor .u32 a0 a1)) ((((a0 - a1) % 4294967296) - a2) % 4294967296))) / 2147483648)
theorem bits_Sub32.calls (a0 : Int) (a1 : Int) (a2 : Int) (r1 : Int) (r2 : Int) (w : World) (h : bits_Sub32.f a0 a1 a2 = some (r1, r2)) :
    Calls Tryd.prog 80 #[.int .u32 a0, .int .u32 a1, .int .u32 a2] w fun e w' => e = .returned (.tuple #[.int .u32 r1, .int .u32 r2]) ∧ Drawn0 w w' := by
  have H : (some ((((a0 - a1) % 4294967296) - a2) % 4294967296, (Go.bits .or .u32 (Go.bits .and .u32 (Go.bits .xor .u32 4294967295 a0) a1) (Go.bits .and .u32 (Go.bits .xor .u32 4294967295 (Go.bits .xor .u32 a0 a1)) ((((a0 - a1) % 4294967296) - a2) % 4294967296))) / 2147483648)) = some (r1, r2) := h
  clear h
  simp only [Option.some.injEq, Prod.mk.injEq] at H
  obtain ⟨rfl, rfl⟩ := H
  go_enter Tryd.func80, Tryd.ntmps80
  go_wp2
  go_ret2
  exact ⟨by first | rfl | (simp; done) | (simp [*]; done), by repeat (first | exact Drawn0.refl _ | apply Drawn0.step)⟩


def n_less.l0 : Nat → List Int → List Int → Int → Int → Int → Option (Int × List Int)
  | 0, _, _, _, _, _ => none
  | k + 1, x0, x1, x5, x9, x10 => if x10 < x9 then (if x10 < (x1.length : Int) then (if 0 ≤ x10 then (if x10 < (x0.length : Int) then ((bits_Sub32.f (rd x0 x10) (rd x1 x10) x5).bind fun bt144 => (n_less.l0 k (x0.set (x10 : Int).toNat bt144.1) x1 bt144.2 x9 (wrap64 (x10 + 1)))) else (none)) else (none)) else (if 0 ≤ x10 then (if x10 < (x0.length : Int) then ((bits_Sub32.f (rd x0 x10) 0 x5).bind fun bt148 => (n_less.l0 k (x0.set (x10 : Int).toNat bt148.1) x1 bt148.2 x9 (wrap64 (x10 + 1)))) else (none)) else (none))) else (some (x5, x0))
def n_less.f (k : Nat) (l0 : List Int) (l1 : List Int) : Option (Int × List Int) := n_less.l0 k l0 l1 0 (l0.length : Int) 0
theorem n_less.calls (k : Nat) (P0_ : Nat → Prop) (u9000_ : Value) (l0 : List Int) (A1 : Option Addr) (c1 : Nat) (l1 : List Int) (r1 : Int) (r2 : List Int) (w0 w : World) (hB : Below w0.heap.size w0 w) (ho0 : Kd.R (Kd.int .u32) 58 w w0.heap.size P0_ u9000_ l0) (hr1 : ∀ W_, Kept w W_ (fun k_ => P0_ k_) → Kd.C (Kd.int .u32) W_ A1 l1.length l1) (hc1 : l1.length ≤ c1) (h : n_less.f k l0 l1 = some (r1, r2)) :
    Calls Tryd.prog 61 #[u9000_, .slice A1 l1.length c1] w fun e w' => e = .returned (.int .u32 r1) ∧ Kd.R (Kd.int .u32) 58 w' w0.heap.size (fun k_ => (P0_ k_ ∨ w.heap.size ≤ k_)) u9000_ r2 ∧ Below w0.heap.size w0 w' ∧ Kept w w' (fun k_ => P0_ k_) := by
  have HO0 := zMk (show Kd.R (Kd.int .u32) 58 w w0.heap.size (fun k_ => (P0_ k_ ∨ w.heap.size ≤ k_)) u9000_ l0 from zRm ho0 (fun k_ hk => (.inl hk)))
  have HR1 := zMk hr1
  have HC1 := zMk hc1
  clear hr1 hc1
  have HK := zMk (Kept.refl w (fun k_ => P0_ k_))
  have HW0 := zMk hB.size
  have HB := zMk hB
  clear hB
  have H : (n_less.l0 k l0 l1 0 (l0.length : Int) 0) = some (r1, r2) := h
  clear h
  have H' := zMk H
  clear H
  obtain ⟨Ao3, co3, eo3⟩ := zRs HO0.out
  subst eo3
  go_enter Tryd.func61, Tryd.ntmps61
  go_wp2
  go_loopg [5, 10] k (fun kq v5 v10 w' => ∃ (x0_1 : List Int) (x5_1 : Int) (x10_1 : Int), v5 = .int .u32 x5_1 ∧ v10 = .int .i64 x10_1 ∧ Aside0 (n_less.l0 kq x0_1 l1 x5_1 (l0.length : Int) x10_1 = some (r1, r2)) ∧ Aside0 (kq ≤ k) ∧ Aside0 (Kd.R (Kd.int .u32) 58 w' w0.heap.size (fun k_ => (P0_ k_ ∨ w.heap.size ≤ k_)) (.slice Ao3 l0.length co3) x0_1) ∧ Aside0 (Kept w w' (fun k_ => P0_ k_)) ∧ Aside0 (Below w0.heap.size w0 w'))
  case atStart => exact ⟨(l0), (0), (0), (by first | rfl | (simp; done) | (simp [*]; done)), (by first | rfl | (simp; done) | (simp [*]; done)), H', ⟨Nat.le_refl _⟩, ⟨by exact uR HO0.out⟩, ⟨by repeat (first | (with_reducible first | exact HK.out | apply Kept.alloc | apply Kept.drewN | apply Kept.drew) | exact HK.out)⟩, ⟨by exact uT HB.out⟩⟩
  clear H'
  obtain ⟨x0_1, x5_1, x10_1, rfl, rfl, HA, HK1, HO_0, HK, HB⟩ := hrel
  have hl0_1 := (zRr HO_0.out).1
  rw [hl0_1] at HO_0
  (try simp only [hl0_1])
  rcases gk with _ | k1
  · exact absurd HA.out (by simp [n_less.l0])
  have H := HA.out
  clear HA
  simp only [n_less.l0] at H
  by_cases c4 : x10_1 < (l0.length : Int)
  · rw [if_pos c4] at H
    have c4b0 : decide (x10_1 < (l0.length : Int)) = true := decide_eq_true c4
    (try (have c4b0l := c4b0; simp only [hl0_1] at c4b0l))
    clear c4
    by_cases c5 : x10_1 < (l1.length : Int)
    · rw [if_pos c5] at H
      have c5b0 : decide (x10_1 < (l1.length : Int)) = true := decide_eq_true c5
      (try (have c5b0l := c5b0; simp only [hl0_1] at c5b0l))
      clear c5
      by_cases c6 : 0 ≤ x10_1
      rotate_left
      · rw [if_neg c6] at H; exact absurd H (by simp)
      rw [if_pos c6] at H
      have c6b0 : decide (0 ≤ x10_1) = true := decide_eq_true c6
      (try (have c6b0l := c6b0; simp only [hl0_1] at c6b0l))
      clear c6
      by_cases c7 : x10_1 < (x0_1.length : Int)
      rotate_left
      · rw [if_neg c7] at H; exact absurd H (by simp)
      rw [if_pos c7] at H
      have c7b0 : decide (x10_1 < (x0_1.length : Int)) = true := decide_eq_true c7
      (try (have c7b0l := c7b0; simp only [hl0_1] at c7b0l))
      clear c7
      replace H := bnd H
      obtain ⟨⟨t144, t145⟩, A80, H⟩ := H
      replace H : (n_less.l0 k1 (x0_1.set (x10_1 : Int).toNat t144) l1 t145 (l0.length : Int) (wrap64 (x10_1 + 1))) = some (r1, r2) := H
      have A8 := zMk A80
      clear A80
      obtain ⟨y146, hy146⟩ : ∃ y_ : List Int, y_ = (x0_1.set (x10_1 : Int).toNat t144) := ⟨_, rfl⟩
      replace H : (n_less.l0 k1 y146 l1 t145 (l0.length : Int) (wrap64 (x10_1 + 1))) = some (r1, r2) := by first | (rw [hy146]; with_reducible exact H) | (have H2_ := bsm H; first | (rw [hy146]; with_reducible exact H2_) | with_reducible exact H2_) | with_reducible exact H | (rw [hy146]; exact H) | exact H
      have Ny146 := zMk hy146
      clear hy146
      have H' := zMk H
      clear H
      have p142 : 0 ≤ (x10_1 : Int) := of_decide_eq_true (by assumption)
      have q142 : x10_1 < (l1.length : Int) := of_decide_eq_true (by assumption)
      obtain ⟨ad142, e142, hx142_0⟩ := zAi (Kd.C_kept_now HR1.out HK.out) x10_1 p142 q142
      cases e142
      replace p142 := eq_true p142
      replace q142 := eq_true q142
      have p143 : 0 ≤ (x10_1 : Int) := of_decide_eq_true (by assumption)
      have q143 : x10_1 < (x0_1.length : Int) := of_decide_eq_true (by assumption)
      obtain ⟨ad143, e143, hx143_0⟩ := zAi (zRr HO_0.out).2.2 x10_1 p143 q143
      cases e143
      replace p143 := eq_true p143
      replace q143 := eq_true q143
      go_wp2_with (first | ((with_reducible refine gate_callee (f := 80) rfl ?_); refine goesL_ (some 30) rfl rfl Tryd.func80 (by kernel_rfl) rfl #[.int .u32 (rd x0_1 x10_1), .int .u32 (rd l1 x10_1), .int .u32 x5_1] rfl (by (try simp only [zMa, zMc, zMn]); first |  done|  rfl|  (simp only [zLd, zLt]; rfl)) ?_; (with_reducible refine (bits_Sub32.calls (rd x0_1 x10_1) (rd l1 x10_1) x5_1 t144 t145 _ A8.out).mono ?_); rintro e w' ⟨rfl, ⟨nd, rfl⟩⟩; refine ⟨_, rfl, ?_⟩; (try (rw [drewN_self wr]; generalize hq_ : World.drewN wr _ = wr; have n0_ : Aside0 (Kd.R (Kd.int .u32) 58 wr w0.heap.size (fun k_ => (P0_ k_ ∨ w.heap.size ≤ k_)) (.slice (some ad143) x0_1.length co3) x0_1) := ⟨by rw [← hq_]; exact (by exact uR HO_0.out)⟩; have n1_ : Aside0 (Kept w wr (fun k_ => P0_ k_)) := ⟨by rw [← hq_]; exact (by repeat (first | (with_reducible first |  exact HK.out|  apply Kept.alloc|  apply Kept.drewN|  apply Kept.drew)|  exact HK.out))⟩; have n2_ : Aside0 (Below w0.heap.size w0 wr) := ⟨by rw [← hq_]; exact (by exact uT HB.out)⟩; clear HO_0 HK HB hq_; have HO_0 := n0_; have HK := n1_; have HB := n2_; clear n0_ n1_ n2_)); have p9 : 0 ≤ (x10_1 : Int) := of_decide_eq_true (by first | (with_reducible assumption)|  assumption); have q9 : (x10_1 : Int) < ((x0_1.length : Int) : Int) := of_decide_eq_true (by first | (with_reducible assumption)|  assumption); obtain ⟨go9, co9, eo9, gb9, gl9, cl9, HG9⟩ := Kd.R_form HO_0.out (by omega); (first |  cases eo9|  (injection eo9 with ea_ en_ ec_; (first |  subst ea_|  (injection ea_ with ea_; subst ea_)); subst ec_; clear en_)); have GB9 := zMk gb9; have IGB9 := ownGe GB9.out; have GG9 := zMk HG9; clear gb9 gl9 HG9; have HMgo9 := zMk (show (P0_ go9 ∨ w.heap.size ≤ go9) from (HO_0.out.1 _ rfl)); (first |  simp only [add_plain] at hx143_0|  skip); obtain ⟨hx9_0, hf9_0⟩ := Kd.R_celln 0 HO_0.out (x10_1 : Int) p9 q9; replace p9 := eq_true p9; replace q9 := eq_true q9; obtain ⟨hy10_, hz10_⟩ := Kd.R_celln 0 HO_0.out (x10_1 : Int) (of_decide_eq_true (by first | (with_reducible assumption)|  assumption)) (of_decide_eq_true (by first | (with_reducible assumption)|  assumption)); have HP10 := Kd.R_putg HO_0.out (x10_1 : Int) t144)|((with_reducible refine gate_store (t := 58) (p := 33) rfl ?_); refine store_event (t := 58) (p := 33) (v := ?vo_w11) (w1 := (wr.setCell ⟨go9, (x10_1 : Int).toNat, none⟩ (.int .u32 t144))) ?hg ?ho ?hn ?hr ?_; (case ho => rfl); (case hg => rfl); (case hn => rfl); (case hr => first | (go_simp; done)|(go_simp; rfl)|(go_simp; rw [show ∀ x : Int, IntKind.u32.wrap (IntKind.u8.wrap x) = x % 256 from fun x => (by show (x % 256) % 4294967296 = x % 256; omega)])); intro w11 hw; have hg : wr.grownBy w11 (some go9) := (by rw [hw]; exact HP10.2); have hp_ : Kd.R (Kd.int .u32) 58 w11 w0.heap.size (fun k_ => (P0_ k_ ∨ w.heap.size ≤ k_)) (.slice (some ⟨go9, 0, none⟩) x0_1.length co3) y146 := (by rw [hw, Ny146.out]; exact HP10.1); clear HP10; replace HB := zMk ((by rw [hw]; exact below_set (HB.out) GB9.out : Below w0.heap.size w0 w11)); replace HK := zMk (Kept.of_grown (S := (fun k_ => P0_ k_)) hg (by repeat (first | (with_reducible first |  exact HK.out|  apply Kept.alloc|  apply Kept.drewN|  apply Kept.drew)|  exact HK.out)) (fun k_ e_ => (HO_0.out.1 k_ e_))); replace HO_0 := zMk (hp_); clear hg hw hp_))
      (try simp only [← hl0_1])
      go_roundg k1
      case measure => have := HK1.out; omega
      case rel => exact ⟨(y146), (t145), (wrap64 (x10_1 + 1)), (by first | rfl | (simp; done) | (simp [*]; done)), (by first | rfl | (simp; done) | (simp [*]; done)), H', ⟨by have := HK1.out; omega⟩, ⟨by (try simp only [hl0_1]); exact uR HO_0.out⟩, ⟨by repeat (first | (with_reducible first | exact HK.out | apply Kept.alloc | apply Kept.drewN | apply Kept.drew) | exact HK.out)⟩, ⟨by exact uT HB.out⟩⟩
    · rw [if_neg c5] at H
      have c5b0 : decide (x10_1 < (l1.length : Int)) = false := decide_eq_false c5
      (try (have c5b0l := c5b0; simp only [hl0_1] at c5b0l))
      clear c5
      by_cases c12 : 0 ≤ x10_1
      rotate_left
      · rw [if_neg c12] at H; exact absurd H (by simp)
      rw [if_pos c12] at H
      have c12b0 : decide (0 ≤ x10_1) = true := decide_eq_true c12
      (try (have c12b0l := c12b0; simp only [hl0_1] at c12b0l))
      clear c12
      by_cases c13 : x10_1 < (x0_1.length : Int)
      rotate_left
      · rw [if_neg c13] at H; exact absurd H (by simp)
      rw [if_pos c13] at H
      have c13b0 : decide (x10_1 < (x0_1.length : Int)) = true := decide_eq_true c13
      (try (have c13b0l := c13b0; simp only [hl0_1] at c13b0l))
      clear c13
      replace H := bnd H
      obtain ⟨⟨t148, t149⟩, A140, H⟩ := H
      replace H : (n_less.l0 k1 (x0_1.set (x10_1 : Int).toNat t148) l1 t149 (l0.length : Int) (wrap64 (x10_1 + 1))) = some (r1, r2) := H
      have A14 := zMk A140
      clear A140
      obtain ⟨y150, hy150⟩ : ∃ y_ : List Int, y_ = (x0_1.set (x10_1 : Int).toNat t148) := ⟨_, rfl⟩
      replace H : (n_less.l0 k1 y150 l1 t149 (l0.length : Int) (wrap64 (x10_1 + 1))) = some (r1, r2) := by first | (rw [hy150]; with_reducible exact H) | (have H2_ := bsm H; first | (rw [hy150]; with_reducible exact H2_) | with_reducible exact H2_) | with_reducible exact H | (rw [hy150]; exact H) | exact H
      have Ny150 := zMk hy150
      clear hy150
      have H' := zMk H
      clear H
      have p147 : 0 ≤ (x10_1 : Int) := of_decide_eq_true (by assumption)
      have q147 : x10_1 < (x0_1.length : Int) := of_decide_eq_true (by assumption)
      obtain ⟨ad147, e147, hx147_0⟩ := zAi (zRr HO_0.out).2.2 x10_1 p147 q147
      cases e147
      replace p147 := eq_true p147
      replace q147 := eq_true q147
      go_wp2_with (first | ((with_reducible refine gate_callee (f := 80) rfl ?_); refine goesL_ (some 30) rfl rfl Tryd.func80 (by kernel_rfl) rfl #[.int .u32 (rd x0_1 x10_1), .int .u32 0, .int .u32 x5_1] rfl (by (try simp only [zMa, zMc, zMn]); first |  done|  rfl|  (simp only [zLd, zLt]; rfl)) ?_; (with_reducible refine (bits_Sub32.calls (rd x0_1 x10_1) 0 x5_1 t148 t149 _ A14.out).mono ?_); rintro e w' ⟨rfl, ⟨nd, rfl⟩⟩; refine ⟨_, rfl, ?_⟩; (try (rw [drewN_self wr]; generalize hq_ : World.drewN wr _ = wr; have n0_ : Aside0 (Kd.R (Kd.int .u32) 58 wr w0.heap.size (fun k_ => (P0_ k_ ∨ w.heap.size ≤ k_)) (.slice (some ad147) x0_1.length co3) x0_1) := ⟨by rw [← hq_]; exact (by exact uR HO_0.out)⟩; have n1_ : Aside0 (Kept w wr (fun k_ => P0_ k_)) := ⟨by rw [← hq_]; exact (by repeat (first | (with_reducible first |  exact HK.out|  apply Kept.alloc|  apply Kept.drewN|  apply Kept.drew)|  exact HK.out))⟩; have n2_ : Aside0 (Below w0.heap.size w0 wr) := ⟨by rw [← hq_]; exact (by exact uT HB.out)⟩; clear HO_0 HK HB hq_; have HO_0 := n0_; have HK := n1_; have HB := n2_; clear n0_ n1_ n2_)); have p15 : 0 ≤ (x10_1 : Int) := of_decide_eq_true (by first | (with_reducible assumption)|  assumption); have q15 : (x10_1 : Int) < ((x0_1.length : Int) : Int) := of_decide_eq_true (by first | (with_reducible assumption)|  assumption); obtain ⟨go15, co15, eo15, gb15, gl15, cl15, HG15⟩ := Kd.R_form HO_0.out (by omega); (first |  cases eo15|  (injection eo15 with ea_ en_ ec_; (first |  subst ea_|  (injection ea_ with ea_; subst ea_)); subst ec_; clear en_)); have GB15 := zMk gb15; have IGB15 := ownGe GB15.out; have GG15 := zMk HG15; clear gb15 gl15 HG15; have HMgo15 := zMk (show (P0_ go15 ∨ w.heap.size ≤ go15) from (HO_0.out.1 _ rfl)); (first |  simp only [add_plain] at hx147_0|  skip); obtain ⟨hx15_0, hf15_0⟩ := Kd.R_celln 0 HO_0.out (x10_1 : Int) p15 q15; replace p15 := eq_true p15; replace q15 := eq_true q15; obtain ⟨hy16_, hz16_⟩ := Kd.R_celln 0 HO_0.out (x10_1 : Int) (of_decide_eq_true (by first | (with_reducible assumption)|  assumption)) (of_decide_eq_true (by first | (with_reducible assumption)|  assumption)); have HP16 := Kd.R_putg HO_0.out (x10_1 : Int) t148)|((with_reducible refine gate_store (t := 58) (p := 33) rfl ?_); refine store_event (t := 58) (p := 33) (v := ?vo_w17) (w1 := (wr.setCell ⟨go15, (x10_1 : Int).toNat, none⟩ (.int .u32 t148))) ?hg ?ho ?hn ?hr ?_; (case ho => rfl); (case hg => rfl); (case hn => rfl); (case hr => first | (go_simp; done)|(go_simp; rfl)|(go_simp; rw [show ∀ x : Int, IntKind.u32.wrap (IntKind.u8.wrap x) = x % 256 from fun x => (by show (x % 256) % 4294967296 = x % 256; omega)])); intro w17 hw; have hg : wr.grownBy w17 (some go15) := (by rw [hw]; exact HP16.2); have hp_ : Kd.R (Kd.int .u32) 58 w17 w0.heap.size (fun k_ => (P0_ k_ ∨ w.heap.size ≤ k_)) (.slice (some ⟨go15, 0, none⟩) x0_1.length co3) y150 := (by rw [hw, Ny150.out]; exact HP16.1); clear HP16; replace HB := zMk ((by rw [hw]; exact below_set (HB.out) GB15.out : Below w0.heap.size w0 w17)); replace HK := zMk (Kept.of_grown (S := (fun k_ => P0_ k_)) hg (by repeat (first | (with_reducible first |  exact HK.out|  apply Kept.alloc|  apply Kept.drewN|  apply Kept.drew)|  exact HK.out)) (fun k_ e_ => (HO_0.out.1 k_ e_))); replace HO_0 := zMk (hp_); clear hg hw hp_))
      (try simp only [← hl0_1])
      go_roundg k1
      case measure => have := HK1.out; omega
      case rel => exact ⟨(y150), (t149), (wrap64 (x10_1 + 1)), (by first | rfl | (simp; done) | (simp [*]; done)), (by first | rfl | (simp; done) | (simp [*]; done)), H', ⟨by have := HK1.out; omega⟩, ⟨by (try simp only [hl0_1]); exact uR HO_0.out⟩, ⟨by repeat (first | (with_reducible first | exact HK.out | apply Kept.alloc | apply Kept.drewN | apply Kept.drew) | exact HK.out)⟩, ⟨by exact uT HB.out⟩⟩
  · rw [if_neg c4] at H
    have c4b0 : decide (x10_1 < (l0.length : Int)) = false := decide_eq_false c4
    (try (have c4b0l := c4b0; simp only [hl0_1] at c4b0l))
    clear c4
    simp only [Option.some.injEq, Prod.mk.injEq] at H
    obtain ⟨rfl, rfl⟩ := H
    go_wp2
    go_ret
    exact ⟨by first | rfl | (simp [errW_none, errW_some] <;> rfl) | (simp [*, errW_none, errW_some] <;> rfl), (by first | exact (by exact uR HO_0.out) | (simp only [hl0_1]; exact (by exact uR HO_0.out))), by exact uT HB.out, by repeat (first | (with_reducible first | exact HK.out | apply Kept.alloc | apply Kept.drewN | apply Kept.drew) | exact HK.out)⟩


def n_Sub.f (k : Nat) (l0 : List Int) (l1 : List Int) : Option (List Int × Int) := (n_Cmp.f l0 l1).bind fun t246 => (if t246 < 0 then (some (([] : List Int), 17)) else ((n_Norm.f l0).bind fun t247 => ((n_cut.f l1).bind fun t250 => ((n_less.f k t247 t250).bind fun bt253 => ((n_cut.f bt253.2).bind fun t255 => (some (t255, 0)))))))
theorem n_Sub.calls (k : Nat) (A0 : Option Addr) (c0 : Nat) (l0 : List Int) (P1_ : Nat → Prop) (A1 : Option Addr) (c1 : Nat) (l1 : List Int) (r1 : List Int) (r2 : Int) (w : World) (hr0 : Kd.C (Kd.int .u32) w A0 l0.length l0) (hc0 : l0.length ≤ c0) (hs1 : Kd.V (Kd.int .u32) 58 w w.heap.size (fun k_ => P1_ k_) (.slice A1 l1.length c1) l1) (h : n_Sub.f k l0 l1 = some (r1, r2)) :
    Calls Tryd.prog 35 #[.slice A0 l0.length c0, .slice A1 l1.length c1] w fun e w' => ∃ v0_ : Value, e = .returned (.tuple #[v0_, .int .i64 r2]) ∧ Kd.V (Kd.int .u32) 58 w' w.heap.size (fun k_ => (P1_ k_ ∨ w.heap.size ≤ k_)) v0_ r1 ∧ Below w.heap.size w w' := by
  have HR0 := zMk hr0
  have HC0 := zMk hc0
  clear hr0 hc0
  have HO1 := zMk (show Kd.V (Kd.int .u32) 58 w w.heap.size (fun k_ => (P1_ k_ ∨ w.heap.size ≤ k_)) (.slice A1 l1.length c1) l1 from zVm hs1 (fun k_ hk => .inl hk))
  have HB := zMk (Below.refl w.heap.size w)
  have H : ((n_Cmp.f l0 l1).bind fun t246 => (if t246 < 0 then (some (([] : List Int), 17)) else ((n_Norm.f l0).bind fun t247 => ((n_cut.f l1).bind fun t250 => ((n_less.f k t247 t250).bind fun bt253 => ((n_cut.f bt253.2).bind fun t255 => (some (t255, 0)))))))) = some (r1, r2) := h
  clear h
  replace H := bnd H
  obtain ⟨t246, A30, H⟩ := H
  have A3 := zMk A30
  clear A30
  by_cases c4 : t246 < 0
  · rw [if_pos c4] at H
    have c4b0 : decide (t246 < 0) = true := decide_eq_true c4
    clear c4
    simp only [Option.some.injEq, Prod.mk.injEq] at H
    obtain ⟨rfl, rfl⟩ := H
    go_enter Tryd.func35, Tryd.ntmps35
    go_wp2_with (first | ((with_reducible refine gate_callee (f := 49) rfl ?_); refine goesL_ (some 9) rfl rfl Tryd.func49 (by kernel_rfl) rfl #[.slice A0 l0.length c0, .slice A1 l1.length c1] rfl (by (try simp only [zMa, zMc, zMn]); first |  done|  rfl|  (simp only [zLd, zLt]; rfl)) ?_; (with_reducible refine (n_Cmp.calls _ _ l0 _ _ l1 t246 _ ?side1 ?side2 ?side3 ?side4 A3.out).mono ?_); (case side1 => repeat (first |  exact HR0.out|  (with_reducible refine zCa ?_ _)|(with_reducible refine zCn ?_ _)|(with_reducible refine zCd ?_))); (case side2 => exact HC0.out); (case side3 => exact uC (zVr HO1.out).2.2); (case side4 => exact (zVr HO1.out).2.1); rintro e w5 ⟨rfl, hb⟩; refine ⟨_, rfl, ?_⟩; replace HO1 := zMk (zVb (by exact uV HO1.out) hb); replace HB := zMk (zBt (by exact uT HB.out) hb)))
    go_ret2
    exact ⟨_, by first | rfl | (simp [errW_none, errW_some] <;> rfl) | (simp [*, errW_none, errW_some] <;> rfl), (by first | exact Kd.V_nil _ _ _ _ _ | exact zVm (Kd.R_V (by first | exact Kd.R_nil _ _ _ _ _ | exact Kd.N_nil _ _ _ _ _ | exact Kd.V_nil _ _ _ _ _ | exact Kd.Q_nil _ _ _ _ _ | exact Kd.S_nil _ _ _ _ _)) (fun k_ hk => by first | exact ⟨(.inr (hk.1)), hk.2⟩ | exact (.inr (hk)))), by exact uT HB.out⟩
  · rw [if_neg c4] at H
    have c4b0 : decide (t246 < 0) = false := decide_eq_false c4
    clear c4
    replace H := bnd H
    obtain ⟨t247, A60, H⟩ := H
    have A6 := zMk A60
    clear A60
    replace H := bnd H
    obtain ⟨t250, A70, H⟩ := H
    have A7 := zMk A70
    clear A70
    replace H := bnd H
    obtain ⟨⟨t253, t254⟩, A80, H⟩ := H
    replace H : ((n_cut.f t254).bind fun t255 => (some (t255, 0))) = some (r1, r2) := H
    have A8 := zMk A80
    clear A80
    replace H := bnd H
    obtain ⟨t255, A90, H⟩ := H
    have A9 := zMk A90
    clear A90
    simp only [Option.some.injEq, Prod.mk.injEq] at H
    obtain ⟨rfl, rfl⟩ := H
    go_enter Tryd.func35, Tryd.ntmps35
    go_wp2_with (first | ((with_reducible refine gate_callee (f := 49) rfl ?_); refine goesL_ (some 9) rfl rfl Tryd.func49 (by kernel_rfl) rfl #[.slice A0 l0.length c0, .slice A1 l1.length c1] rfl (by (try simp only [zMa, zMc, zMn]); first |  done|  rfl|  (simp only [zLd, zLt]; rfl)) ?_; (with_reducible refine (n_Cmp.calls _ _ l0 _ _ l1 t246 _ ?side1 ?side2 ?side3 ?side4 A3.out).mono ?_); (case side1 => repeat (first |  exact HR0.out|  (with_reducible refine zCa ?_ _)|(with_reducible refine zCn ?_ _)|(with_reducible refine zCd ?_))); (case side2 => exact HC0.out); (case side3 => exact uC (zVr HO1.out).2.2); (case side4 => exact (zVr HO1.out).2.1); rintro e w10 ⟨rfl, hb⟩; refine ⟨_, rfl, ?_⟩; replace HO1 := zMk (zVb (by exact uV HO1.out) hb); replace HB := zMk (zBt (by exact uT HB.out) hb))|((with_reducible refine gate_callee (f := 57) rfl ?_); refine goesL_ (some 12) rfl rfl Tryd.func57 (by kernel_rfl) rfl #[.slice A0 l0.length c0] rfl (by (try simp only [zMa, zMc, zMn]); first |  done|  rfl|  (simp only [zLd, zLt]; rfl)) ?_; (with_reducible refine (n_Norm.calls _ _ l0 t247 _ ?side1 ?side2 A6.out).mono ?_); (case side1 => repeat (first |  exact (Kd.C_below HR0.out HB.out)|(with_reducible refine zCa ?_ _)|(with_reducible refine zCn ?_ _)|(with_reducible refine zCd ?_))); (case side2 => exact HC0.out); rintro e w11 ⟨v248, rfl, ho0, hb⟩; refine ⟨_, rfl, ?_⟩; replace HO1 := zMk (zVe (by exact uV HO1.out) (zRz ho0) hb); have HO249 := zMk (zRl (Kd.R_newM (M := fun k_ => (w.heap.size ≤ k_)) ho0 (zBs (by exact uT HB.out)) (fun k_ h_ => h_)) (zBs (by exact uT HB.out))); replace HB := zMk (zBt (by exact uT HB.out) hb))|((with_reducible refine gate_callee (f := 56) rfl ?_); refine goesL_ (some 15) rfl rfl Tryd.func56 (by kernel_rfl) rfl #[.slice A1 l1.length c1] rfl (by (try simp only [zMa, zMc, zMn]); first |  done|  rfl|  (simp only [zLd, zLt]; rfl)) ?_; (with_reducible refine (n_cut.calls (fun k_ => ((P1_ k_ ∨ w.heap.size ≤ k_) ∧ some k_ ≠ (v248 : Value).ownBlock)) _ _ l1 t250 _ ?side1 A7.out).mono ?_); (case side1 => exact HO1.out); rintro e w12 ⟨v251, rfl, ho0, hb⟩; refine ⟨_, rfl, ?_⟩; replace HO1 := zMk (zVb (by exact uV HO1.out) hb); have HO252 := zMk (zVl (zVm (ok' := fun k_ => (P1_ k_ ∨ w.heap.size ≤ k_) ∧ some k_ ≠ (v248 : Value).ownBlock) ho0 (fun k_ hk_ => ⟨Or.elim hk_ (fun hs_ => hs_.1) (fun hn_ => (.inr (Nat.le_trans (zBs (by exact uT HB.out)) hn_))), Or.elim hk_ (fun hs_ => hs_.2) (fun hn_ => (Kd.fresh' (zRt (by exact uR HO249.out)) k_ hn_))⟩)) (zBs (by exact uT HB.out))); replace HO249 := zMk (zRb (by exact uR HO249.out) hb); replace HB := zMk (zBt (by exact uT HB.out) hb); obtain ⟨Ao13, co13, eo13⟩ := zRs HO249.out; subst eo13; obtain ⟨Ao14, co14, eo14⟩ := zVs HO252.out; subst eo14)|((with_reducible refine gate_callee (f := 61) rfl ?_); refine goesL_ (some 16) rfl rfl Tryd.func61 (by kernel_rfl) rfl #[.slice Ao13 t247.length co13, .slice Ao14 t250.length co14] rfl (by (try simp only [zMa, zMc, zMn]); first |  done|  rfl|  (simp only [zLd, zLt]; rfl)) ?_; (with_reducible refine (n_less.calls k (fun k_ => some k_ = (.slice Ao13 t247.length co13 : Value).ownBlock) (.slice Ao13 t247.length co13) t247 _ _ t250 t253 t254 w _ ?side1 ?side2 ?side3 ?side4 A8.out).mono ?_); (case side1 => exact uT HB.out); (case side2 => exact Kd.R_tight rfl HO249.out); (case side3 => exact Kd.C_kept_ownV (HO252.out) (fun k_ hk_ hs_ => (hk_.2) hs_)); (case side4 => exact (zVr HO252.out).2.1); rintro e w15 ⟨rfl, hy0, hb, hkp⟩; refine ⟨_, rfl, ?_⟩; replace HO1 := zMk (zVm (ok' := fun k_ => (P1_ k_ ∨ w.heap.size ≤ k_) ∧ some k_ ≠ (.slice Ao13 t247.length co13 : Value).ownBlock) (Kd.V_keptB (HO1.out) hkp (fun k_ hk_ hs_ => (hk_.2) hs_)) (fun k_ hk_ => ⟨hk_.1.1, hk_.1.2⟩)); replace HO249 := zMk (Kd.R_reok rfl hy0 (fun k_ e_ => HO249.out.1 k_ e_)); replace HO252 := zMk (zVm (ok' := fun k_ => (P1_ k_ ∨ w.heap.size ≤ k_) ∧ some k_ ≠ (.slice Ao13 t247.length co13 : Value).ownBlock) (Kd.V_keptB (HO252.out) hkp (fun k_ hk_ hs_ => (hk_.2) hs_)) (fun k_ hk_ => ⟨hk_.1.1, hk_.1.2⟩)); replace HB := zMk (hb))|((with_reducible refine gate_callee (f := 56) rfl ?_); refine goesL_ (some 18) rfl rfl Tryd.func56 (by kernel_rfl) rfl #[.slice Ao13 t254.length co13] rfl (by (try simp only [zMa, zMc, zMn]); first |  done|  (rw [show t254.length = t247.length from (zRr HO249.out).1.symm] <;> rfl)|  rfl|  (simp only [zLd, zLt]; rfl)) ?_; (with_reducible refine (n_cut.calls (fun k_ => some k_ = (.slice Ao13 t247.length co13 : Value).ownBlock) _ _ t254 t255 _ ?side1 A9.out).mono ?_); (case side1 => rw [show t254.length = t247.length from (zRr HO249.out).1.symm]; exact Kd.R_V (Kd.R_tight rfl (HO249.out))); rintro e w16 ⟨v256, rfl, ho0, hb⟩; refine ⟨_, rfl, ?_⟩; replace HO1 := zMk (zVb (by exact uV HO1.out) hb); replace HO252 := zMk (zVb (by exact uV HO252.out) hb); have HO257 := zMk (zVl (zVm (ok' := fun k_ => (P1_ k_ ∨ w.heap.size ≤ k_)) ho0 (fun k_ hk_ => Or.elim hk_ (fun hs_ => (.inr (((HO249.out).1 k_ hs_.symm).1))) (fun hn_ => (.inr (Nat.le_trans (zBs (by exact uT HB.out)) hn_))))) (zBs (by exact uT HB.out))); replace HO249 := zMk (zRb (by exact uR HO249.out) hb); replace HB := zMk (zBt (by exact uT HB.out) hb)))
    go_ret2
    exact ⟨_, by first | rfl | (simp [errW_none, errW_some] <;> rfl) | (simp [*, errW_none, errW_some] <;> rfl), by exact uV HO257.out, by exact uT HB.out⟩


def integer_signed.f (a0 : Bool) (l1 : List Int) : Option (Bool × List Int) := (n_Norm.f l1).bind fun t259 => (if a0 = true then (some (decide ((t259.length : Int) > 0), t259)) else (some (false, t259)))
theorem integer_signed.calls (a0 : Bool) (A1 : Option Addr) (c1 : Nat) (l1 : List Int) (r1 : Bool) (r2 : List Int) (w : World) (hr1 : Kd.C (Kd.int .u32) w A1 l1.length l1) (hc1 : l1.length ≤ c1) (h : integer_signed.f a0 l1 = some (r1, r2)) :
    Calls Tryd.prog 36 #[.bool a0, .slice A1 l1.length c1] w fun e w' => ∃ v1_ : Value, e = .returned (.agg #[.bool r1, v1_]) ∧ Kd.R (Kd.int .u32) 58 w' w.heap.size (fun _ => True) v1_ r2 ∧ Below w.heap.size w w' := by
  have hu24 := Tryd.underlying24
  have HR1 := zMk hr1
  have HC1 := zMk hc1
  clear hr1 hc1
  have HB := zMk (Below.refl w.heap.size w)
  have H : ((n_Norm.f l1).bind fun t259 => (if a0 = true then (some (decide ((t259.length : Int) > 0), t259)) else (some (false, t259)))) = some (r1, r2) := h
  clear h
  replace H := bnd H
  obtain ⟨t259, A30, H⟩ := H
  have A3 := zMk A30
  clear A30
  by_cases c4 : a0 = true
  · subst c4
    replace H : (some (decide ((t259.length : Int) > 0), t259)) = some (r1, r2) := by rw [if_pos rfl] at H; exact H
    simp only [Option.some.injEq, Prod.mk.injEq] at H
    obtain ⟨rfl, rfl⟩ := H
    have hdl_ : decide ((t259.length : Int) > 0) = decide (0 < t259.length) := decide_eq_decide.2 (by omega)
    rw [hdl_]
    go_enter Tryd.func36, Tryd.ntmps36
    go_wp2_with (first | ((with_reducible refine gate_dst (N := 4) rfl ?_); (try (refine gate_guard (by rfl) ?_; dsimp only)); refine box_event ?hg (N := 4) ?hd (cs := #[.bool false, .slice none 0 0]) (t := 24) ?hr ?_; (case hd => rfl); (case hg => rfl); (case hr => first | (go_simp; done)|(go_simp; rfl)|(go_simp; rw [show ∀ x : Int, IntKind.u32.wrap (IntKind.u8.wrap x) = x % 256 from fun x => (by show (x % 256) % 4294967296 = x % 256; omega)])); intro gb258 hg w5 hbox hb; have BK258 := zMk (hbox); have GW258 := zMk ((by rw [hg]; exact (zBs (by exact uT HB.out)) : w.heap.size ≤ gb258)); have GE258 := zMk ((by rw [hg]; exact (zBs (by exact uT HB.out)) : w.heap.size ≤ gb258)); have IGE258 := ownGe GE258.out; replace HB := zMk (zBt (by exact uT HB.out) hb); clear hb hbox hg)|((with_reducible refine gate_callee (f := 57) rfl ?_); refine goesL_ (some 6) rfl rfl Tryd.func57 (by kernel_rfl) rfl #[.slice A1 l1.length c1] rfl (by (try simp only [zMa, zMc, zMn]); first |  done|  rfl|  (simp only [zLd, zLt]; rfl)) ?_; (with_reducible refine (n_Norm.calls _ _ l1 t259 _ ?side1 ?side2 A3.out).mono ?_); (case side1 => repeat (first |  exact (Kd.C_below HR1.out HB.out)|(with_reducible refine zCa ?_ _)|(with_reducible refine zCn ?_ _)|(with_reducible refine zCd ?_))); (case side2 => exact HC1.out); rintro e w6 ⟨v260, rfl, ho0, hb⟩; refine ⟨_, rfl, ?_⟩; have HO261 := zMk (zRl ho0 (zBs (by exact uT HB.out))); replace BK258 := zMk (zKb (g := gb258) (o := .cells #[.bool false, .slice none 0 0] 24 (0, 0)) (by (with_reducible repeat (first |  refine zKn ?_ _|  refine zKd ?_|  refine zKa ?_ _)); exact BK258.out) hb); replace HB := zMk (zBt (by exact uT HB.out) hb); obtain ⟨Ao7, co7, eo7⟩ := zRs HO261.out; subst eo7; have hcz8_0 : w6.cell? ⟨gb258, 0, none⟩ = some (.bool false) := (zKc BK258.out 0).trans rfl; have hcz8_1 : w6.cell? ⟨gb258, 1, none⟩ = some (.slice none 0 0) := (zKc BK258.out 1).trans rfl; have hfz8_0 := zKf BK258.out 0; have hfz8_1 := zKf BK258.out 1))
    refine bodyPost_ret (results_cell_row rfl _ _ gb258 24 #[.bool (decide (0 < t259.length)), .slice Ao7 t259.length co7] (0, 0) _ rfl (by (with_reducible repeat (first | refine zKn ?_ _ | refine zKd ?_ | refine zKa ?_ _)); refine blk_put (cs := #[.bool (decide (0 < t259.length)), .slice none 0 0]) ?_ 1 _ rfl; (with_reducible repeat (first | refine zKn ?_ _ | refine zKd ?_ | refine zKa ?_ _)); refine blk_put (cs := #[.bool false, .slice none 0 0]) ?_ 0 _ rfl; (with_reducible repeat (first | refine zKn ?_ _ | refine zKd ?_ | refine zKa ?_ _)); exact BK258.out) Tryd.underlying24 rfl (by kernel_rfl)) rfl ?_
    exact ⟨_, by first | rfl | (simp [errW_none, errW_some] <;> rfl) | (simp [*, errW_none, errW_some] <;> rfl), by (with_reducible repeat (first | apply zRa | apply zRn | apply zRd)); exact zRm (Kd.R_far (p := ⟨gb258, 1, none⟩) (Kd.R_far (p := ⟨gb258, 0, none⟩) (Kd.R_types HO261.out BK258.out (by decide)) (fun _ hk => hk.2) (.bool (decide (0 < t259.length)))) (fun _ hk => hk.2) (.slice Ao7 t259.length co7)) (fun _ hk => trivial), by exact uT HB.out⟩
  · replace c4 := Bool.eq_false_iff.mpr c4
    subst c4
    replace H : (some (false, t259)) = some (r1, r2) := by rw [if_neg (show ¬ (false = true) by decide)] at H; exact H
    simp only [Option.some.injEq, Prod.mk.injEq] at H
    obtain ⟨rfl, rfl⟩ := H
    go_enter Tryd.func36, Tryd.ntmps36
    go_wp2_with (first | ((with_reducible refine gate_dst (N := 4) rfl ?_); (try (refine gate_guard (by rfl) ?_; dsimp only)); refine box_event ?hg (N := 4) ?hd (cs := #[.bool false, .slice none 0 0]) (t := 24) ?hr ?_; (case hd => rfl); (case hg => rfl); (case hr => first | (go_simp; done)|(go_simp; rfl)|(go_simp; rw [show ∀ x : Int, IntKind.u32.wrap (IntKind.u8.wrap x) = x % 256 from fun x => (by show (x % 256) % 4294967296 = x % 256; omega)])); intro gb258 hg w9 hbox hb; have BK258 := zMk (hbox); have GW258 := zMk ((by rw [hg]; exact (zBs (by exact uT HB.out)) : w.heap.size ≤ gb258)); have GE258 := zMk ((by rw [hg]; exact (zBs (by exact uT HB.out)) : w.heap.size ≤ gb258)); have IGE258 := ownGe GE258.out; replace HB := zMk (zBt (by exact uT HB.out) hb); clear hb hbox hg)|((with_reducible refine gate_callee (f := 57) rfl ?_); refine goesL_ (some 6) rfl rfl Tryd.func57 (by kernel_rfl) rfl #[.slice A1 l1.length c1] rfl (by (try simp only [zMa, zMc, zMn]); first |  done|  rfl|  (simp only [zLd, zLt]; rfl)) ?_; (with_reducible refine (n_Norm.calls _ _ l1 t259 _ ?side1 ?side2 A3.out).mono ?_); (case side1 => repeat (first |  exact (Kd.C_below HR1.out HB.out)|(with_reducible refine zCa ?_ _)|(with_reducible refine zCn ?_ _)|(with_reducible refine zCd ?_))); (case side2 => exact HC1.out); rintro e w10 ⟨v260, rfl, ho0, hb⟩; refine ⟨_, rfl, ?_⟩; have HO261 := zMk (zRl ho0 (zBs (by exact uT HB.out))); replace BK258 := zMk (zKb (g := gb258) (o := .cells #[.bool false, .slice none 0 0] 24 (0, 0)) (by (with_reducible repeat (first |  refine zKn ?_ _|  refine zKd ?_|  refine zKa ?_ _)); exact BK258.out) hb); replace HB := zMk (zBt (by exact uT HB.out) hb); obtain ⟨Ao11, co11, eo11⟩ := zRs HO261.out; subst eo11; have hcz12_0 : w10.cell? ⟨gb258, 0, none⟩ = some (.bool false) := (zKc BK258.out 0).trans rfl; have hcz12_1 : w10.cell? ⟨gb258, 1, none⟩ = some (.slice none 0 0) := (zKc BK258.out 1).trans rfl; have hfz12_0 := zKf BK258.out 0; have hfz12_1 := zKf BK258.out 1))
    refine bodyPost_ret (results_cell_row rfl _ _ gb258 24 #[.bool false, .slice Ao11 t259.length co11] (0, 0) _ rfl (by (with_reducible repeat (first | refine zKn ?_ _ | refine zKd ?_ | refine zKa ?_ _)); refine blk_put (cs := #[.bool false, .slice none 0 0]) ?_ 1 _ rfl; (with_reducible repeat (first | refine zKn ?_ _ | refine zKd ?_ | refine zKa ?_ _)); refine blk_put (cs := #[.bool false, .slice none 0 0]) ?_ 0 _ rfl; (with_reducible repeat (first | refine zKn ?_ _ | refine zKd ?_ | refine zKa ?_ _)); exact BK258.out) Tryd.underlying24 rfl (by kernel_rfl)) rfl ?_
    exact ⟨_, by first | rfl | (simp [errW_none, errW_some] <;> rfl) | (simp [*, errW_none, errW_some] <;> rfl), by (with_reducible repeat (first | apply zRa | apply zRn | apply zRd)); exact zRm (Kd.R_far (p := ⟨gb258, 1, none⟩) (Kd.R_far (p := ⟨gb258, 0, none⟩) (Kd.R_types HO261.out BK258.out (by decide)) (fun _ hk => hk.2) (.bool false)) (fun _ hk => hk.2) (.slice Ao11 t259.length co11)) (fun _ hk => trivial), by exact uT HB.out⟩


def integer_Add.f (k : Nat) (a0_0 : Bool) (l0_1 : List Int) (a1_0 : Bool) (l1_1 : List Int) : Option (Bool × List Int) := if (a0_0 == a1_0) = true then ((n_Add.f k l0_1 l1_1).bind fun t853 => ((integer_signed.f a0_0 t853).bind fun bt856 => (some (bt856.1, bt856.2)))) else ((n_Sub.f k l0_1 l1_1).bind fun bt860 => (if bt860.2 = 0 then ((integer_signed.f a0_0 bt860.1).bind fun bt864 => (some (bt864.1, bt864.2))) else ((n_Sub.f k l1_1 l0_1).bind fun bt868 => ((integer_signed.f a1_0 bt868.1).bind fun bt872 => (some (bt872.1, bt872.2))))))
def integer_Add.T2 : Bool × List (List Nat × List Nat) := (true, [([], []), ([0], [0]), ([], []), ([2], [2]), ([], []), ([4], [4]), ([3, 5], [3, 5]), ([1, 6, 6], [1, 6]), ([7, 7, 0, 1, 2, 3, 4, 5, 6, 7], [7])])
def integer_Add.B2 : List Nat := [0, 1, 0, 4, 0, 16, 60, 127, 255]
theorem integer_Add.tab2 : rtab .any (opsOf Tryd.f17 2) = integer_Add.T2 := by kernel_rfl
theorem integer_Add.bits2 : waitsOk integer_Add.T2.2 integer_Add.B2 = true := by kernel_rfl
theorem integer_Add.calls (k : Nat) (a0_0 : Bool) (A0_1 : Option Addr) (c0_1 : Nat) (l0_1 : List Int) (a1_0 : Bool) (A1_1 : Option Addr) (c1_1 : Nat) (l1_1 : List Int) (r1 : Bool) (r2 : List Int) (w : World) (hr0_1 : Kd.C (Kd.int .u32) w A0_1 l0_1.length l0_1) (hc0_1 : l0_1.length ≤ c0_1) (hr1_1 : Kd.C (Kd.int .u32) w A1_1 l1_1.length l1_1) (hc1_1 : l1_1.length ≤ c1_1) (h : integer_Add.f k a0_0 l0_1 a1_0 l1_1 = some (r1, r2)) :
    Calls Tryd.prog 17 #[.agg #[.bool a0_0, .slice A0_1 l0_1.length c0_1], .agg #[.bool a1_0, .slice A1_1 l1_1.length c1_1]] w fun e w' => ∃ v1_ : Value, e = .returned (.agg #[.bool r1, v1_]) ∧ Kd.R (Kd.int .u32) 58 w' w.heap.size (fun _ => True) v1_ r2 ∧ Below w.heap.size w w' := by
  have hu24 := Tryd.underlying24
  have HR0_1 := zMk hr0_1
  have HC0_1 := zMk hc0_1
  clear hr0_1 hc0_1
  have HR1_1 := zMk hr1_1
  have HC1_1 := zMk hc1_1
  clear hr1_1 hc1_1
  have HB := zMk (Below.refl w.heap.size w)
  have H : (if (a0_0 == a1_0) = true then ((n_Add.f k l0_1 l1_1).bind fun t853 => ((integer_signed.f a0_0 t853).bind fun bt856 => (some (bt856.1, bt856.2)))) else ((n_Sub.f k l0_1 l1_1).bind fun bt860 => (if bt860.2 = 0 then ((integer_signed.f a0_0 bt860.1).bind fun bt864 => (some (bt864.1, bt864.2))) else ((n_Sub.f k l1_1 l0_1).bind fun bt868 => ((integer_signed.f a1_0 bt868.1).bind fun bt872 => (some (bt872.1, bt872.2))))))) = some (r1, r2) := h
  clear h
  by_cases c3 : (a0_0 == a1_0) = true
  · rw [if_pos c3] at H
    have c3b0 : (a0_0 == a1_0) = true := c3
    (try (have c3b1 : decide (a0_0 = a1_0) = true := by simpa using c3))
    (try (have c3b2 : (a0_0 == a1_0) = true := by simpa using c3))
    clear c3
    replace H := bnd H
    obtain ⟨t853, A40, H⟩ := H
    have A4 := zMk A40
    clear A40
    replace H := bnd H
    obtain ⟨⟨t856, t857⟩, A50, H⟩ := H
    replace H : (some (t856, t857)) = some (r1, r2) := H
    have A5 := zMk A50
    clear A50
    simp only [Option.some.injEq, Prod.mk.injEq] at H
    obtain ⟨rfl, rfl⟩ := H
    go_enter Tryd.func17, Tryd.ntmps17
    try go_wp2_with (first | ((with_reducible refine gate_dst (N := 2) rfl ?_); refine box_event ?hg (N := 2) ?hd (cs := #[.bool a0_0, .slice A0_1 l0_1.length c0_1]) (t := 24) ?hr ?_; (case hd => rfl); (case hg => rfl); (case hr => first | (go_simp; done)|(go_simp; rfl)|(go_simp; rw [show ∀ x : Int, IntKind.u32.wrap (IntKind.u8.wrap x) = x % 256 from fun x => (by show (x % 256) % 4294967296 = x % 256; omega)])); intro gb850 hg w6 hbox hb; have BK850 := zMk (hbox); have GW850 := zMk ((by rw [hg]; exact (zBs (by exact uT HB.out)) : w.heap.size ≤ gb850)); have GE850 := zMk ((by rw [hg]; exact (zBs (by exact uT HB.out)) : w.heap.size ≤ gb850)); have IGE850 := ownGe GE850.out; replace HB := zMk (zBt (by exact uT HB.out) hb); clear hb hbox hg)|((with_reducible refine gate_dst (N := 3) rfl ?_); refine box_event ?hg (N := 3) ?hd (cs := #[.bool a1_0, .slice A1_1 l1_1.length c1_1]) (t := 24) ?hr ?_; (case hd => rfl); (case hg => rfl); (case hr => first | (go_simp; done)|(go_simp; rfl)|(go_simp; rw [show ∀ x : Int, IntKind.u32.wrap (IntKind.u8.wrap x) = x % 256 from fun x => (by show (x % 256) % 4294967296 = x % 256; omega)])); intro gb851 hg w7 hbox hb; have BK851 := zMk (hbox); have GW851 := zMk ((by rw [hg]; exact (zBs (by exact uT HB.out)) : w.heap.size ≤ gb851)); have GE851 := zMk ((by rw [hg]; exact (zBs (by exact uT HB.out)) : w.heap.size ≤ gb851)); have IGE851 := ownGe GE851.out; replace HB := zMk (zBt (by exact uT HB.out) hb); have NB850_851 := zMk ((by rw [hg]; exact Nat.ne_of_lt (blk_lt (g := gb850) (o := .cells #[.bool a0_0, .slice A0_1 l0_1.length c0_1] 24 (0, 0)) (by (with_reducible repeat (first |  refine zKn ?_ _|  refine zKd ?_|  refine zKa ?_ _)); exact BK850.out)) : gb850 ≠ gb851)); have NB851_850 := zMk ((by rw [hg]; exact Nat.ne_of_gt (blk_lt (g := gb850) (o := .cells #[.bool a0_0, .slice A0_1 l0_1.length c0_1] 24 (0, 0)) (by (with_reducible repeat (first |  refine zKn ?_ _|  refine zKd ?_|  refine zKa ?_ _)); exact BK850.out)) : gb851 ≠ gb850)); replace BK850 := zMk (zKb (g := gb850) (o := .cells #[.bool a0_0, .slice A0_1 l0_1.length c0_1] 24 (0, 0)) (by (with_reducible repeat (first |  refine zKn ?_ _|  refine zKd ?_|  refine zKa ?_ _)); exact BK850.out) hb); clear hb hbox hg)|((with_reducible refine gate_dst (N := 4) rfl ?_); refine box_event ?hg (N := 4) ?hd (cs := #[.bool false, .slice none 0 0]) (t := 24) ?hr ?_; (case hd => rfl); (case hg => rfl); (case hr => first | (go_simp; done)|(go_simp; rfl)|(go_simp; rw [show ∀ x : Int, IntKind.u32.wrap (IntKind.u8.wrap x) = x % 256 from fun x => (by show (x % 256) % 4294967296 = x % 256; omega)])); intro gb852 hg w8 hbox hb; have BK852 := zMk (hbox); have GW852 := zMk ((by rw [hg]; exact (zBs (by exact uT HB.out)) : w.heap.size ≤ gb852)); have GE852 := zMk ((by rw [hg]; exact (zBs (by exact uT HB.out)) : w.heap.size ≤ gb852)); have IGE852 := ownGe GE852.out; replace HB := zMk (zBt (by exact uT HB.out) hb); have NB850_852 := zMk ((by rw [hg]; exact Nat.ne_of_lt (blk_lt (g := gb850) (o := .cells #[.bool a0_0, .slice A0_1 l0_1.length c0_1] 24 (0, 0)) (by (with_reducible repeat (first |  refine zKn ?_ _|  refine zKd ?_|  refine zKa ?_ _)); exact BK850.out)) : gb850 ≠ gb852)); have NB852_850 := zMk ((by rw [hg]; exact Nat.ne_of_gt (blk_lt (g := gb850) (o := .cells #[.bool a0_0, .slice A0_1 l0_1.length c0_1] 24 (0, 0)) (by (with_reducible repeat (first |  refine zKn ?_ _|  refine zKd ?_|  refine zKa ?_ _)); exact BK850.out)) : gb852 ≠ gb850)); replace BK850 := zMk (zKb (g := gb850) (o := .cells #[.bool a0_0, .slice A0_1 l0_1.length c0_1] 24 (0, 0)) (by (with_reducible repeat (first |  refine zKn ?_ _|  refine zKd ?_|  refine zKa ?_ _)); exact BK850.out) hb); have NB851_852 := zMk ((by rw [hg]; exact Nat.ne_of_lt (blk_lt (g := gb851) (o := .cells #[.bool a1_0, .slice A1_1 l1_1.length c1_1] 24 (0, 0)) (by (with_reducible repeat (first |  refine zKn ?_ _|  refine zKd ?_|  refine zKa ?_ _)); exact BK851.out)) : gb851 ≠ gb852)); have NB852_851 := zMk ((by rw [hg]; exact Nat.ne_of_gt (blk_lt (g := gb851) (o := .cells #[.bool a1_0, .slice A1_1 l1_1.length c1_1] 24 (0, 0)) (by (with_reducible repeat (first |  refine zKn ?_ _|  refine zKd ?_|  refine zKa ?_ _)); exact BK851.out)) : gb852 ≠ gb851)); replace BK851 := zMk (zKb (g := gb851) (o := .cells #[.bool a1_0, .slice A1_1 l1_1.length c1_1] 24 (0, 0)) (by (with_reducible repeat (first |  refine zKn ?_ _|  refine zKd ?_|  refine zKa ?_ _)); exact BK851.out) hb); clear hb hbox hg; have hnb9 := NB850_851.out; have hnc9 := NB851_850.out; have hnb10 := NB850_852.out; have hnc10 := NB852_850.out; have hcz11_0 : w8.cell? ⟨gb850, 0, none⟩ = some (.bool a0_0) := (zKc BK850.out 0).trans rfl; have hcz11_1 : w8.cell? ⟨gb850, 1, none⟩ = some (.slice A0_1 l0_1.length c0_1) := (zKc BK850.out 1).trans rfl; have hfz11_0 := zKf BK850.out 0; have hfz11_1 := zKf BK850.out 1; have hnb12 := NB851_852.out; have hnc12 := NB852_851.out; have hcz13_0 : w8.cell? ⟨gb851, 0, none⟩ = some (.bool a1_0) := (zKc BK851.out 0).trans rfl; have hcz13_1 : w8.cell? ⟨gb851, 1, none⟩ = some (.slice A1_1 l1_1.length c1_1) := (zKc BK851.out 1).trans rfl; have hfz13_0 := zKf BK851.out 0; have hfz13_1 := zKf BK851.out 1))
    replace BK850 := zMk (zKd BK850.out)
    replace BK851 := zMk (zKd BK851.out)
    replace BK852 := zMk (zKd BK852.out)
    replace HB := zMk (zBd HB.out)
    refine start_ (n := 9) (S := fun w' => w'.cell? ⟨gb850, 0, none⟩ = some (.bool a0_0) ∧ w'.cell? ⟨gb850, 1, none⟩ = some (.slice A0_1 l0_1.length c0_1) ∧ w'.cell? ⟨gb851, 0, none⟩ = some (.bool a1_0) ∧ w'.cell? ⟨gb851, 1, none⟩ = some (.slice A1_1 l1_1.length c1_1)) (ds := []) #[false, false, false, false, false, false, false, false, false] (by kernel_rfl) rfl rfl ⟨(zKc BK850.out 0).trans rfl, (zKc BK850.out 1).trans rfl, (zKc BK851.out 0).trans rfl, (zKc BK851.out 1).trans rfl⟩ (fun hHeld => ?_); refine with_tabW integer_Add.tab2 integer_Add.bits2 (fun HT_ HW_ => ?_)
    generalize w8.drew = w14 at BK850 BK851 BK852 HB hHeld ⊢
    refine pure_ (i := 0) (N := some 12) (v := ?_) (a' := ?_) #[true, false, false, false, false, false, false, false, false] rfl rfl (any_of HT_.out (by kernel_rfl)) (fun _ _ _ h => h) (Or.inl ⟨by rfl, ?_⟩) ?_ ?_
    rotate_left
    · intro w'
      go_simp
      with_reducible rfl
    rotate_left
    · simp only [Act.put, zSa, zSb, zSc, i64_w, i32_w]
      rfl
    refine pure_ (i := 2) (N := some 14) (v := ?_) (a' := ?_) #[true, false, true, false, false, false, false, false, false] rfl rfl (any_of HT_.out (by kernel_rfl)) (fun _ _ _ h => h) (Or.inl ⟨by rfl, ?_⟩) ?_ ?_
    rotate_left
    · intro w'
      go_simp
      with_reducible rfl
    rotate_left
    · simp only [Act.put, zSa, zSb, zSc, i64_w, i32_w]
      rfl
    refine pure_ (i := 4) (N := some 16) (v := ?_) (a' := ?_) #[true, false, true, false, true, false, false, false, false] rfl rfl (any_of HT_.out (by kernel_rfl)) (fun _ _ _ h => h) (Or.inl ⟨by rfl, ?_⟩) ?_ ?_
    rotate_left
    · intro w'
      go_simp
      with_reducible rfl
    rotate_left
    · simp only [Act.put, zSa, zSb, zSc, i64_w, i32_w]
      rfl
    refine take_ (i := 1) (N := some 13) (v := ?_) (a' := ?_) #[true, true, true, false, true, false, false, false, false] rfl rfl (take_ofW HT_.out HW_.out (by kernel_rfl)) (fun _ _ _ h => h) (Or.inl ⟨by rfl, ?_⟩) hHeld ?_ ?_
    rotate_left
    · rintro w' ⟨s0, s1, s2, s3⟩
      go_simp
      with_reducible rfl
    rotate_left
    · simp only [Act.put, zSa, zSb, zSc, i64_w, i32_w]
      rfl
    refine take_ (i := 3) (N := some 15) (v := ?_) (a' := ?_) #[true, true, true, true, true, false, false, false, false] rfl rfl (take_ofW HT_.out HW_.out (by kernel_rfl)) (fun _ _ _ h => h) (Or.inl ⟨by rfl, ?_⟩) hHeld ?_ ?_
    rotate_left
    · rintro w' ⟨s0, s1, s2, s3⟩
      go_simp
      with_reducible rfl
    rotate_left
    · simp only [Act.put, zSa, zSb, zSc, i64_w, i32_w]
      rfl
    refine take_ (i := 5) (N := some 17) (v := ?_) (a' := ?_) #[true, true, true, true, true, true, false, false, false] rfl rfl (take_ofW HT_.out HW_.out (by kernel_rfl)) (fun _ _ _ h => h) (Or.inl ⟨by rfl, ?_⟩) hHeld ?_ ?_
    rotate_left
    · rintro w' ⟨s0, s1, s2, s3⟩
      go_simp
      with_reducible rfl
    rotate_left
    · simp only [Act.put, zSa, zSb, zSc, i64_w, i32_w]
      rfl
    refine one_ (i := 6) (N := some 18) #[true, true, true, true, true, true, true, false, false] rfl rfl (one_of HT_.out (by kernel_rfl)) (by decide) (fun K hK => ?_)
    refine goes_ Tryd.func33 (by kernel_rfl) rfl #[.slice A0_1 l0_1.length c0_1, .slice A1_1 l1_1.length c1_1] (by rfl) rfl rfl (by (try simp only [zMa, zMc, zMn]); first | done | rfl | (simp only [zLd, zLt]; rfl)) ?_
    with_reducible refine (n_Add.calls k (fun k_ => k_ < w.heap.size) _ _ l0_1 (fun k_ => k_ < w.heap.size) _ _ l1_1 t853 _ ?side1 ?side2 A4.out).mono ?_
    (case side1 => exact Kd.V_mk HC0_1.out (Kd.F_below (Kd.C_F (Kd.heap_int .u32) HR0_1.out) (by exact uT HB.out)))
    (case side2 => exact Kd.V_mk HC1_1.out (Kd.F_below (Kd.C_F (Kd.heap_int .u32) HR1_1.out) (by exact uT HB.out)))
    rintro e w15 ⟨v854, rfl, ho0, hb⟩
    refine ⟨_, rfl, ?_⟩
    have HO855 := zMk (zVl (zVm (ok' := fun k_ => k_ ≠ gb850 ∧ k_ ≠ gb851 ∧ k_ ≠ gb852) ho0 (fun k_ hk_ => ⟨Or.elim hk_ (fun hs_ => Or.elim hs_ (fun hs_ => fun e_ => Nat.not_le.2 hs_ (by rw [e_]; exact GW850.out)) (fun hs_ => fun e_ => Nat.not_le.2 hs_ (by rw [e_]; exact GW850.out))) (fun hn_ => (Kd.freshB (g := gb850) (o := .cells #[.bool a0_0, .slice A0_1 l0_1.length c0_1] 24 (0, 0)) (by (with_reducible repeat (first | refine zKn ?_ _ | refine zKd ?_ | refine zKa ?_ _)); exact BK850.out) k_ hn_)), Or.elim hk_ (fun hs_ => Or.elim hs_ (fun hs_ => fun e_ => Nat.not_le.2 hs_ (by rw [e_]; exact GW851.out)) (fun hs_ => fun e_ => Nat.not_le.2 hs_ (by rw [e_]; exact GW851.out))) (fun hn_ => (Kd.freshB (g := gb851) (o := .cells #[.bool a1_0, .slice A1_1 l1_1.length c1_1] 24 (0, 0)) (by (with_reducible repeat (first | refine zKn ?_ _ | refine zKd ?_ | refine zKa ?_ _)); exact BK851.out) k_ hn_)), Or.elim hk_ (fun hs_ => Or.elim hs_ (fun hs_ => fun e_ => Nat.not_le.2 hs_ (by rw [e_]; exact GW852.out)) (fun hs_ => fun e_ => Nat.not_le.2 hs_ (by rw [e_]; exact GW852.out))) (fun hn_ => (Kd.freshB (g := gb852) (o := .cells #[.bool false, .slice none 0 0] 24 (0, 0)) (by (with_reducible repeat (first | refine zKn ?_ _ | refine zKd ?_ | refine zKa ?_ _)); exact BK852.out) k_ hn_))⟩)) (zBs (by exact uT HB.out)))
    replace BK850 := zMk (zKb (g := gb850) (o := .cells #[.bool a0_0, .slice A0_1 l0_1.length c0_1] 24 (0, 0)) (by (with_reducible repeat (first | refine zKn ?_ _ | refine zKd ?_ | refine zKa ?_ _)); exact BK850.out) hb)
    replace BK851 := zMk (zKb (g := gb851) (o := .cells #[.bool a1_0, .slice A1_1 l1_1.length c1_1] 24 (0, 0)) (by (with_reducible repeat (first | refine zKn ?_ _ | refine zKd ?_ | refine zKa ?_ _)); exact BK851.out) hb)
    replace BK852 := zMk (zKb (g := gb852) (o := .cells #[.bool false, .slice none 0 0] 24 (0, 0)) (by (with_reducible repeat (first | refine zKn ?_ _ | refine zKd ?_ | refine zKa ?_ _)); exact BK852.out) hb)
    replace HB := zMk (zBt (by exact uT HB.out) hb)
    obtain ⟨Ao16, co16, eo16⟩ := zVs HO855.out
    (first |  subst eo16|  (injection eo16 with f1_ f2_ f3_; have f4_ := f1_.symm; have f5_ := f3_.symm; clear f1_ f2_ f3_; subst f4_; subst f5_))
    refine hK.out _ _ ⟨(zKc BK850.out 0).trans rfl, (zKc BK850.out 1).trans rfl, (zKc BK851.out 0).trans rfl, (zKc BK851.out 1).trans rfl⟩ (fun hHeld => ?_)
    clear hK K
    refine norm_ (a' := ?_) ?_ ?_
    rotate_left
    · show Act.put _ (some 18) _ = _
      simp only [Act.put, zSa, zSb, zSc, i64_w, i32_w]
      rfl
    refine one_ (i := 7) (N := some 19) #[true, true, true, true, true, true, true, true, false] rfl rfl (one_of HT_.out (by kernel_rfl)) (by decide) (fun K hK => ?_)
    refine goes_ Tryd.func36 (by kernel_rfl) rfl #[.bool a0_0, .slice Ao16 t853.length co16] (by rfl) rfl rfl (by (try simp only [zMa, zMc, zMn]); first | done | rfl | (simp only [zLd, zLt]; rfl)) ?_
    with_reducible refine (integer_signed.calls a0_0 _ _ t853 t856 t857 _ ?side1 ?side2 A5.out).mono ?_
    (case side1 => exact uC (zVr HO855.out).2.2)
    (case side2 => exact (zVr HO855.out).2.1)
    rintro e w17 ⟨v858, rfl, ho0, hb⟩
    refine ⟨_, rfl, ?_⟩
    replace HO855 := zMk (zVe (by exact uV HO855.out) (zRz ho0) hb)
    have HO859 := zMk (zRl ho0 (zBs (by exact uT HB.out)))
    replace BK850 := zMk (zKb (g := gb850) (o := .cells #[.bool a0_0, .slice A0_1 l0_1.length c0_1] 24 (0, 0)) (by (with_reducible repeat (first | refine zKn ?_ _ | refine zKd ?_ | refine zKa ?_ _)); exact BK850.out) hb)
    replace BK851 := zMk (zKb (g := gb851) (o := .cells #[.bool a1_0, .slice A1_1 l1_1.length c1_1] 24 (0, 0)) (by (with_reducible repeat (first | refine zKn ?_ _ | refine zKd ?_ | refine zKa ?_ _)); exact BK851.out) hb)
    replace BK852 := zMk (zKb (g := gb852) (o := .cells #[.bool false, .slice none 0 0] 24 (0, 0)) (by (with_reducible repeat (first | refine zKn ?_ _ | refine zKd ?_ | refine zKa ?_ _)); exact BK852.out) hb)
    replace HB := zMk (zBt (by exact uT HB.out) hb)
    obtain ⟨Ao19, co19, eo19⟩ := zRs HO859.out
    (first |  subst eo19|  (injection eo19 with f1_ f2_ f3_; have f4_ := f1_.symm; have f5_ := f3_.symm; clear f1_ f2_ f3_; subst f4_; subst f5_))
    refine hK.out _ _ ⟨(zKc BK850.out 0).trans rfl, (zKc BK850.out 1).trans rfl, (zKc BK851.out 0).trans rfl, (zKc BK851.out 1).trans rfl⟩ (fun hHeld => ?_)
    clear hK K
    refine norm_ (a' := ?_) ?_ ?_
    rotate_left
    · show Act.put _ (some 19) _ = _
      simp only [Act.put, zSa, zSb, zSc, i64_w, i32_w]
      rfl
    refine one_ (i := 8) (N := none) #[true, true, true, true, true, true, true, true, true] rfl rfl (one_of HT_.out (by kernel_rfl)) (by decide) (fun K hK => ?_)
    have hs18 : w17.cell? ⟨gb852, 0, none⟩ = some (.bool false) := (zKc BK852.out 0).trans rfl
    have hfs18 := zKf BK852.out 0
    have hns18_0 := NB850_852.out
    have hns18_1 := NB851_852.out
    have hms18_0 := NB852_850.out
    have hms18_1 := NB852_851.out
    have hs20 : w17.cell? ⟨gb852, 1, none⟩ = some (.slice none 0 0) := (zKc BK852.out 1).trans rfl
    have hfs20 := zKf BK852.out 1
    have hns20_0 := NB850_852.out
    have hns20_1 := NB851_852.out
    have hms20_0 := NB852_850.out
    have hms20_1 := NB852_851.out
    refine skip_ (w1 := ?_) (by rfl) rfl ?_ ?_
    rotate_left
    · go_simp
      rfl
    refine hK.out _ _ ⟨((cell_far (p := ⟨gb852, _, none⟩) NB850_852.out _).trans (((cell_far (p := ⟨gb852, _, none⟩) NB850_852.out _).trans (hHeld.1)))), ((cell_far (p := ⟨gb852, _, none⟩) NB850_852.out _).trans (((cell_far (p := ⟨gb852, _, none⟩) NB850_852.out _).trans (hHeld.2.1)))), ((cell_far (p := ⟨gb852, _, none⟩) NB851_852.out _).trans (((cell_far (p := ⟨gb852, _, none⟩) NB851_852.out _).trans (hHeld.2.2.1)))), ((cell_far (p := ⟨gb852, _, none⟩) NB851_852.out _).trans (((cell_far (p := ⟨gb852, _, none⟩) NB851_852.out _).trans (hHeld.2.2.2))))⟩ (fun hHeld => ?_)
    clear hK K
    refine done_ (done_of HT_.out (by kernel_rfl)) ?_
    try go_wp2
    refine bodyPost_ret (results_cell_row rfl _ _ gb852 24 #[.bool t856, .slice Ao19 t857.length co19] (0, 0) _ rfl (by (with_reducible repeat (first | refine zKn ?_ _ | refine zKd ?_ | refine zKa ?_ _)); refine blk_put (cs := #[.bool t856, .slice none 0 0]) ?_ 1 _ rfl; (with_reducible repeat (first | refine zKn ?_ _ | refine zKd ?_ | refine zKa ?_ _)); refine blk_put (cs := #[.bool false, .slice none 0 0]) ?_ 0 _ rfl; (with_reducible repeat (first | refine zKn ?_ _ | refine zKd ?_ | refine zKa ?_ _)); exact BK852.out) Tryd.underlying24 rfl (by kernel_rfl)) rfl ?_
    exact ⟨_, by first | rfl | (simp [errW_none, errW_some] <;> rfl) | (simp [*, errW_none, errW_some] <;> rfl), by (with_reducible repeat (first | apply zRa | apply zRn | apply zRd)); exact zRm (Kd.R_far (p := ⟨gb852, 1, none⟩) (Kd.R_far (p := ⟨gb852, 0, none⟩) (Kd.R_types HO859.out BK852.out (by decide)) (fun _ hk => hk.2) (.bool t856)) (fun _ hk => hk.2) (.slice Ao19 t857.length co19)) (fun _ hk => trivial), by exact uT HB.out⟩
  · rw [if_neg c3] at H
    have c3b0 : (a0_0 == a1_0) = false := by simpa using c3
    (try (have c3b1 : decide (a0_0 = a1_0) = false := by simpa using c3))
    (try (have c3b2 : (a0_0 == a1_0) = false := by simpa using c3))
    (try (have c3b3 : ¬ (a0_0 = a1_0) := by simpa using c3))
    clear c3
    replace H := bnd H
    obtain ⟨⟨t860, t863⟩, A210, H⟩ := H
    replace H : (if t863 = 0 then ((integer_signed.f a0_0 t860).bind fun bt864 => (some (bt864.1, bt864.2))) else ((n_Sub.f k l1_1 l0_1).bind fun bt868 => ((integer_signed.f a1_0 bt868.1).bind fun bt872 => (some (bt872.1, bt872.2))))) = some (r1, r2) := H
    have A21 := zMk A210
    clear A210
    by_cases c22 : t863 = 0
    · rw [if_pos c22] at H
      have c22b0 : (t863 == 0) = true := beq_iff_eq.mpr c22
      have c22b1 : (t863 != 0) = false := bne_eq_false_iff_eq.mpr c22
      clear c22
      replace H := bnd H
      obtain ⟨⟨t864, t865⟩, A230, H⟩ := H
      replace H : (some (t864, t865)) = some (r1, r2) := H
      have A23 := zMk A230
      clear A230
      simp only [Option.some.injEq, Prod.mk.injEq] at H
      obtain ⟨rfl, rfl⟩ := H
      go_enter Tryd.func17, Tryd.ntmps17
      go_wp2_with (first | ((with_reducible refine gate_dst (N := 2) rfl ?_); refine box_event ?hg (N := 2) ?hd (cs := #[.bool a0_0, .slice A0_1 l0_1.length c0_1]) (t := 24) ?hr ?_; (case hd => rfl); (case hg => rfl); (case hr => first | (go_simp; done)|(go_simp; rfl)|(go_simp; rw [show ∀ x : Int, IntKind.u32.wrap (IntKind.u8.wrap x) = x % 256 from fun x => (by show (x % 256) % 4294967296 = x % 256; omega)])); intro gb850 hg w24 hbox hb; have BK850 := zMk (hbox); have GW850 := zMk ((by rw [hg]; exact (zBs (by exact uT HB.out)) : w.heap.size ≤ gb850)); have GE850 := zMk ((by rw [hg]; exact (zBs (by exact uT HB.out)) : w.heap.size ≤ gb850)); have IGE850 := ownGe GE850.out; replace HB := zMk (zBt (by exact uT HB.out) hb); clear hb hbox hg)|((with_reducible refine gate_dst (N := 3) rfl ?_); refine box_event ?hg (N := 3) ?hd (cs := #[.bool a1_0, .slice A1_1 l1_1.length c1_1]) (t := 24) ?hr ?_; (case hd => rfl); (case hg => rfl); (case hr => first | (go_simp; done)|(go_simp; rfl)|(go_simp; rw [show ∀ x : Int, IntKind.u32.wrap (IntKind.u8.wrap x) = x % 256 from fun x => (by show (x % 256) % 4294967296 = x % 256; omega)])); intro gb851 hg w25 hbox hb; have BK851 := zMk (hbox); have GW851 := zMk ((by rw [hg]; exact (zBs (by exact uT HB.out)) : w.heap.size ≤ gb851)); have GE851 := zMk ((by rw [hg]; exact (zBs (by exact uT HB.out)) : w.heap.size ≤ gb851)); have IGE851 := ownGe GE851.out; replace HB := zMk (zBt (by exact uT HB.out) hb); have NB850_851 := zMk ((by rw [hg]; exact Nat.ne_of_lt (blk_lt (g := gb850) (o := .cells #[.bool a0_0, .slice A0_1 l0_1.length c0_1] 24 (0, 0)) (by (with_reducible repeat (first |  refine zKn ?_ _|  refine zKd ?_|  refine zKa ?_ _)); exact BK850.out)) : gb850 ≠ gb851)); have NB851_850 := zMk ((by rw [hg]; exact Nat.ne_of_gt (blk_lt (g := gb850) (o := .cells #[.bool a0_0, .slice A0_1 l0_1.length c0_1] 24 (0, 0)) (by (with_reducible repeat (first |  refine zKn ?_ _|  refine zKd ?_|  refine zKa ?_ _)); exact BK850.out)) : gb851 ≠ gb850)); replace BK850 := zMk (zKb (g := gb850) (o := .cells #[.bool a0_0, .slice A0_1 l0_1.length c0_1] 24 (0, 0)) (by (with_reducible repeat (first |  refine zKn ?_ _|  refine zKd ?_|  refine zKa ?_ _)); exact BK850.out) hb); clear hb hbox hg)|((with_reducible refine gate_dst (N := 4) rfl ?_); refine box_event ?hg (N := 4) ?hd (cs := #[.bool false, .slice none 0 0]) (t := 24) ?hr ?_; (case hd => rfl); (case hg => rfl); (case hr => first | (go_simp; done)|(go_simp; rfl)|(go_simp; rw [show ∀ x : Int, IntKind.u32.wrap (IntKind.u8.wrap x) = x % 256 from fun x => (by show (x % 256) % 4294967296 = x % 256; omega)])); intro gb852 hg w26 hbox hb; have BK852 := zMk (hbox); have GW852 := zMk ((by rw [hg]; exact (zBs (by exact uT HB.out)) : w.heap.size ≤ gb852)); have GE852 := zMk ((by rw [hg]; exact (zBs (by exact uT HB.out)) : w.heap.size ≤ gb852)); have IGE852 := ownGe GE852.out; replace HB := zMk (zBt (by exact uT HB.out) hb); have NB850_852 := zMk ((by rw [hg]; exact Nat.ne_of_lt (blk_lt (g := gb850) (o := .cells #[.bool a0_0, .slice A0_1 l0_1.length c0_1] 24 (0, 0)) (by (with_reducible repeat (first |  refine zKn ?_ _|  refine zKd ?_|  refine zKa ?_ _)); exact BK850.out)) : gb850 ≠ gb852)); have NB852_850 := zMk ((by rw [hg]; exact Nat.ne_of_gt (blk_lt (g := gb850) (o := .cells #[.bool a0_0, .slice A0_1 l0_1.length c0_1] 24 (0, 0)) (by (with_reducible repeat (first |  refine zKn ?_ _|  refine zKd ?_|  refine zKa ?_ _)); exact BK850.out)) : gb852 ≠ gb850)); replace BK850 := zMk (zKb (g := gb850) (o := .cells #[.bool a0_0, .slice A0_1 l0_1.length c0_1] 24 (0, 0)) (by (with_reducible repeat (first |  refine zKn ?_ _|  refine zKd ?_|  refine zKa ?_ _)); exact BK850.out) hb); have NB851_852 := zMk ((by rw [hg]; exact Nat.ne_of_lt (blk_lt (g := gb851) (o := .cells #[.bool a1_0, .slice A1_1 l1_1.length c1_1] 24 (0, 0)) (by (with_reducible repeat (first |  refine zKn ?_ _|  refine zKd ?_|  refine zKa ?_ _)); exact BK851.out)) : gb851 ≠ gb852)); have NB852_851 := zMk ((by rw [hg]; exact Nat.ne_of_gt (blk_lt (g := gb851) (o := .cells #[.bool a1_0, .slice A1_1 l1_1.length c1_1] 24 (0, 0)) (by (with_reducible repeat (first |  refine zKn ?_ _|  refine zKd ?_|  refine zKa ?_ _)); exact BK851.out)) : gb852 ≠ gb851)); replace BK851 := zMk (zKb (g := gb851) (o := .cells #[.bool a1_0, .slice A1_1 l1_1.length c1_1] 24 (0, 0)) (by (with_reducible repeat (first |  refine zKn ?_ _|  refine zKd ?_|  refine zKa ?_ _)); exact BK851.out) hb); clear hb hbox hg; have hnb27 := NB850_851.out; have hnc27 := NB851_850.out; have hnb28 := NB850_852.out; have hnc28 := NB852_850.out; have hcz29_0 : w26.cell? ⟨gb850, 0, none⟩ = some (.bool a0_0) := (zKc BK850.out 0).trans rfl; have hcz29_1 : w26.cell? ⟨gb850, 1, none⟩ = some (.slice A0_1 l0_1.length c0_1) := (zKc BK850.out 1).trans rfl; have hfz29_0 := zKf BK850.out 0; have hfz29_1 := zKf BK850.out 1; have hnb30 := NB851_852.out; have hnc30 := NB852_851.out; have hcz31_0 : w26.cell? ⟨gb851, 0, none⟩ = some (.bool a1_0) := (zKc BK851.out 0).trans rfl; have hcz31_1 : w26.cell? ⟨gb851, 1, none⟩ = some (.slice A1_1 l1_1.length c1_1) := (zKc BK851.out 1).trans rfl; have hfz31_0 := zKf BK851.out 0; have hfz31_1 := zKf BK851.out 1)|((with_reducible refine gate_callee (f := 35) rfl ?_); refine goesL_ (some 25) rfl rfl Tryd.func35 (by kernel_rfl) rfl #[.slice A0_1 l0_1.length c0_1, .slice A1_1 l1_1.length c1_1] rfl (by (try simp only [zMa, zMc, zMn]); first |  done|  rfl|  (simp only [zLd, zLt]; rfl)) ?_; (with_reducible refine (n_Sub.calls k _ _ l0_1 (fun k_ => k_ < w.heap.size) _ _ l1_1 t860 t863 _ ?side1 ?side2 ?side3 A21.out).mono ?_); (case side1 => repeat (first |  exact (Kd.C_below HR0_1.out HB.out)|(with_reducible refine zCa ?_ _)|(with_reducible refine zCn ?_ _)|(with_reducible refine zCd ?_))); (case side2 => exact HC0_1.out); (case side3 => exact Kd.V_mk HC1_1.out (Kd.F_below (Kd.C_F (Kd.heap_int .u32) HR1_1.out) (by exact uT HB.out))); rintro e w32 ⟨v861, rfl, ho0, hb⟩; refine ⟨_, rfl, ?_⟩; have HO862 := zMk (zVl (zVm (ok' := fun k_ => k_ ≠ gb850 ∧ k_ ≠ gb851 ∧ k_ ≠ gb852) ho0 (fun k_ hk_ => ⟨Or.elim hk_ (fun hs_ => fun e_ => Nat.not_le.2 hs_ (by rw [e_]; exact GW850.out)) (fun hn_ => (Kd.freshB (g := gb850) (o := .cells #[.bool a0_0, .slice A0_1 l0_1.length c0_1] 24 (0, 0)) (by (with_reducible repeat (first |  refine zKn ?_ _|  refine zKd ?_|  refine zKa ?_ _)); exact BK850.out) k_ hn_)), Or.elim hk_ (fun hs_ => fun e_ => Nat.not_le.2 hs_ (by rw [e_]; exact GW851.out)) (fun hn_ => (Kd.freshB (g := gb851) (o := .cells #[.bool a1_0, .slice A1_1 l1_1.length c1_1] 24 (0, 0)) (by (with_reducible repeat (first |  refine zKn ?_ _|  refine zKd ?_|  refine zKa ?_ _)); exact BK851.out) k_ hn_)), Or.elim hk_ (fun hs_ => fun e_ => Nat.not_le.2 hs_ (by rw [e_]; exact GW852.out)) (fun hn_ => (Kd.freshB (g := gb852) (o := .cells #[.bool false, .slice none 0 0] 24 (0, 0)) (by (with_reducible repeat (first |  refine zKn ?_ _|  refine zKd ?_|  refine zKa ?_ _)); exact BK852.out) k_ hn_))⟩)) (zBs (by exact uT HB.out))); replace BK850 := zMk (zKb (g := gb850) (o := .cells #[.bool a0_0, .slice A0_1 l0_1.length c0_1] 24 (0, 0)) (by (with_reducible repeat (first |  refine zKn ?_ _|  refine zKd ?_|  refine zKa ?_ _)); exact BK850.out) hb); replace BK851 := zMk (zKb (g := gb851) (o := .cells #[.bool a1_0, .slice A1_1 l1_1.length c1_1] 24 (0, 0)) (by (with_reducible repeat (first |  refine zKn ?_ _|  refine zKd ?_|  refine zKa ?_ _)); exact BK851.out) hb); replace BK852 := zMk (zKb (g := gb852) (o := .cells #[.bool false, .slice none 0 0] 24 (0, 0)) (by (with_reducible repeat (first |  refine zKn ?_ _|  refine zKd ?_|  refine zKa ?_ _)); exact BK852.out) hb); replace HB := zMk (zBt (by exact uT HB.out) hb); have hcz33_0 : w32.cell? ⟨gb850, 0, none⟩ = some (.bool a0_0) := (zKc BK850.out 0).trans rfl; have hcz33_1 : w32.cell? ⟨gb850, 1, none⟩ = some (.slice A0_1 l0_1.length c0_1) := (zKc BK850.out 1).trans rfl; have hfz33_0 := zKf BK850.out 0; have hfz33_1 := zKf BK850.out 1; obtain ⟨Ao34, co34, eo34⟩ := zVs HO862.out; subst eo34)|((with_reducible refine gate_callee (f := 36) rfl ?_); refine goesL_ (some 33) rfl rfl Tryd.func36 (by kernel_rfl) rfl #[.bool a0_0, .slice Ao34 t860.length co34] rfl (by (try simp only [zMa, zMc, zMn]); first |  done|  rfl|  (simp only [zLd, zLt]; rfl)) ?_; (with_reducible refine (integer_signed.calls a0_0 _ _ t860 t864 t865 _ ?side1 ?side2 A23.out).mono ?_); (case side1 => exact uC (zVr HO862.out).2.2); (case side2 => exact (zVr HO862.out).2.1); rintro e w35 ⟨v866, rfl, ho0, hb⟩; refine ⟨_, rfl, ?_⟩; replace HO862 := zMk (zVe (by exact uV HO862.out) (zRz ho0) hb); have HO867 := zMk (zRl ho0 (zBs (by exact uT HB.out))); replace BK850 := zMk (zKb (g := gb850) (o := .cells #[.bool a0_0, .slice A0_1 l0_1.length c0_1] 24 (0, 0)) (by (with_reducible repeat (first |  refine zKn ?_ _|  refine zKd ?_|  refine zKa ?_ _)); exact BK850.out) hb); replace BK851 := zMk (zKb (g := gb851) (o := .cells #[.bool a1_0, .slice A1_1 l1_1.length c1_1] 24 (0, 0)) (by (with_reducible repeat (first |  refine zKn ?_ _|  refine zKd ?_|  refine zKa ?_ _)); exact BK851.out) hb); replace BK852 := zMk (zKb (g := gb852) (o := .cells #[.bool false, .slice none 0 0] 24 (0, 0)) (by (with_reducible repeat (first |  refine zKn ?_ _|  refine zKd ?_|  refine zKa ?_ _)); exact BK852.out) hb); replace HB := zMk (zBt (by exact uT HB.out) hb); have hcz36_0 : w35.cell? ⟨gb852, 0, none⟩ = some (.bool false) := (zKc BK852.out 0).trans rfl; have hcz36_1 : w35.cell? ⟨gb852, 1, none⟩ = some (.slice none 0 0) := (zKc BK852.out 1).trans rfl; have hfz36_0 := zKf BK852.out 0; have hfz36_1 := zKf BK852.out 1; obtain ⟨Ao37, co37, eo37⟩ := zRs HO867.out; subst eo37))
      refine bodyPost_ret (results_cell_row rfl _ _ gb852 24 #[.bool t864, .slice Ao37 t865.length co37] (0, 0) _ rfl (by (with_reducible repeat (first | refine zKn ?_ _ | refine zKd ?_ | refine zKa ?_ _)); refine blk_put (cs := #[.bool t864, .slice none 0 0]) ?_ 1 _ rfl; (with_reducible repeat (first | refine zKn ?_ _ | refine zKd ?_ | refine zKa ?_ _)); refine blk_put (cs := #[.bool false, .slice none 0 0]) ?_ 0 _ rfl; (with_reducible repeat (first | refine zKn ?_ _ | refine zKd ?_ | refine zKa ?_ _)); exact BK852.out) Tryd.underlying24 rfl (by kernel_rfl)) rfl ?_
      exact ⟨_, by first | rfl | (simp [errW_none, errW_some] <;> rfl) | (simp [*, errW_none, errW_some] <;> rfl), by (with_reducible repeat (first | apply zRa | apply zRn | apply zRd)); exact zRm (Kd.R_far (p := ⟨gb852, 1, none⟩) (Kd.R_far (p := ⟨gb852, 0, none⟩) (Kd.R_types HO867.out BK852.out (by decide)) (fun _ hk => hk.2) (.bool t864)) (fun _ hk => hk.2) (.slice Ao37 t865.length co37)) (fun _ hk => trivial), by exact uT HB.out⟩
    · rw [if_neg c22] at H
      have c22b0 : (t863 == 0) = false := beq_eq_false_iff_ne.mpr c22
      have c22b1 : (t863 != 0) = true := bne_iff_ne.mpr c22
      replace H := bnd H
      obtain ⟨⟨t868, t871⟩, A380, H⟩ := H
      replace H : ((integer_signed.f a1_0 t868).bind fun bt872 => (some (bt872.1, bt872.2))) = some (r1, r2) := H
      have A38 := zMk A380
      clear A380
      replace H := bnd H
      obtain ⟨⟨t872, t873⟩, A390, H⟩ := H
      replace H : (some (t872, t873)) = some (r1, r2) := H
      have A39 := zMk A390
      clear A390
      simp only [Option.some.injEq, Prod.mk.injEq] at H
      obtain ⟨rfl, rfl⟩ := H
      go_enter Tryd.func17, Tryd.ntmps17
      go_wp2_with (first | ((with_reducible refine gate_dst (N := 2) rfl ?_); refine box_event ?hg (N := 2) ?hd (cs := #[.bool a0_0, .slice A0_1 l0_1.length c0_1]) (t := 24) ?hr ?_; (case hd => rfl); (case hg => rfl); (case hr => first | (go_simp; done)|(go_simp; rfl)|(go_simp; rw [show ∀ x : Int, IntKind.u32.wrap (IntKind.u8.wrap x) = x % 256 from fun x => (by show (x % 256) % 4294967296 = x % 256; omega)])); intro gb850 hg w40 hbox hb; have BK850 := zMk (hbox); have GW850 := zMk ((by rw [hg]; exact (zBs (by exact uT HB.out)) : w.heap.size ≤ gb850)); have GE850 := zMk ((by rw [hg]; exact (zBs (by exact uT HB.out)) : w.heap.size ≤ gb850)); have IGE850 := ownGe GE850.out; replace HB := zMk (zBt (by exact uT HB.out) hb); clear hb hbox hg)|((with_reducible refine gate_dst (N := 3) rfl ?_); refine box_event ?hg (N := 3) ?hd (cs := #[.bool a1_0, .slice A1_1 l1_1.length c1_1]) (t := 24) ?hr ?_; (case hd => rfl); (case hg => rfl); (case hr => first | (go_simp; done)|(go_simp; rfl)|(go_simp; rw [show ∀ x : Int, IntKind.u32.wrap (IntKind.u8.wrap x) = x % 256 from fun x => (by show (x % 256) % 4294967296 = x % 256; omega)])); intro gb851 hg w41 hbox hb; have BK851 := zMk (hbox); have GW851 := zMk ((by rw [hg]; exact (zBs (by exact uT HB.out)) : w.heap.size ≤ gb851)); have GE851 := zMk ((by rw [hg]; exact (zBs (by exact uT HB.out)) : w.heap.size ≤ gb851)); have IGE851 := ownGe GE851.out; replace HB := zMk (zBt (by exact uT HB.out) hb); have NB850_851 := zMk ((by rw [hg]; exact Nat.ne_of_lt (blk_lt (g := gb850) (o := .cells #[.bool a0_0, .slice A0_1 l0_1.length c0_1] 24 (0, 0)) (by (with_reducible repeat (first |  refine zKn ?_ _|  refine zKd ?_|  refine zKa ?_ _)); exact BK850.out)) : gb850 ≠ gb851)); have NB851_850 := zMk ((by rw [hg]; exact Nat.ne_of_gt (blk_lt (g := gb850) (o := .cells #[.bool a0_0, .slice A0_1 l0_1.length c0_1] 24 (0, 0)) (by (with_reducible repeat (first |  refine zKn ?_ _|  refine zKd ?_|  refine zKa ?_ _)); exact BK850.out)) : gb851 ≠ gb850)); replace BK850 := zMk (zKb (g := gb850) (o := .cells #[.bool a0_0, .slice A0_1 l0_1.length c0_1] 24 (0, 0)) (by (with_reducible repeat (first |  refine zKn ?_ _|  refine zKd ?_|  refine zKa ?_ _)); exact BK850.out) hb); clear hb hbox hg)|((with_reducible refine gate_dst (N := 4) rfl ?_); refine box_event ?hg (N := 4) ?hd (cs := #[.bool false, .slice none 0 0]) (t := 24) ?hr ?_; (case hd => rfl); (case hg => rfl); (case hr => first | (go_simp; done)|(go_simp; rfl)|(go_simp; rw [show ∀ x : Int, IntKind.u32.wrap (IntKind.u8.wrap x) = x % 256 from fun x => (by show (x % 256) % 4294967296 = x % 256; omega)])); intro gb852 hg w42 hbox hb; have BK852 := zMk (hbox); have GW852 := zMk ((by rw [hg]; exact (zBs (by exact uT HB.out)) : w.heap.size ≤ gb852)); have GE852 := zMk ((by rw [hg]; exact (zBs (by exact uT HB.out)) : w.heap.size ≤ gb852)); have IGE852 := ownGe GE852.out; replace HB := zMk (zBt (by exact uT HB.out) hb); have NB850_852 := zMk ((by rw [hg]; exact Nat.ne_of_lt (blk_lt (g := gb850) (o := .cells #[.bool a0_0, .slice A0_1 l0_1.length c0_1] 24 (0, 0)) (by (with_reducible repeat (first |  refine zKn ?_ _|  refine zKd ?_|  refine zKa ?_ _)); exact BK850.out)) : gb850 ≠ gb852)); have NB852_850 := zMk ((by rw [hg]; exact Nat.ne_of_gt (blk_lt (g := gb850) (o := .cells #[.bool a0_0, .slice A0_1 l0_1.length c0_1] 24 (0, 0)) (by (with_reducible repeat (first |  refine zKn ?_ _|  refine zKd ?_|  refine zKa ?_ _)); exact BK850.out)) : gb852 ≠ gb850)); replace BK850 := zMk (zKb (g := gb850) (o := .cells #[.bool a0_0, .slice A0_1 l0_1.length c0_1] 24 (0, 0)) (by (with_reducible repeat (first |  refine zKn ?_ _|  refine zKd ?_|  refine zKa ?_ _)); exact BK850.out) hb); have NB851_852 := zMk ((by rw [hg]; exact Nat.ne_of_lt (blk_lt (g := gb851) (o := .cells #[.bool a1_0, .slice A1_1 l1_1.length c1_1] 24 (0, 0)) (by (with_reducible repeat (first |  refine zKn ?_ _|  refine zKd ?_|  refine zKa ?_ _)); exact BK851.out)) : gb851 ≠ gb852)); have NB852_851 := zMk ((by rw [hg]; exact Nat.ne_of_gt (blk_lt (g := gb851) (o := .cells #[.bool a1_0, .slice A1_1 l1_1.length c1_1] 24 (0, 0)) (by (with_reducible repeat (first |  refine zKn ?_ _|  refine zKd ?_|  refine zKa ?_ _)); exact BK851.out)) : gb852 ≠ gb851)); replace BK851 := zMk (zKb (g := gb851) (o := .cells #[.bool a1_0, .slice A1_1 l1_1.length c1_1] 24 (0, 0)) (by (with_reducible repeat (first |  refine zKn ?_ _|  refine zKd ?_|  refine zKa ?_ _)); exact BK851.out) hb); clear hb hbox hg; have hnb43 := NB850_851.out; have hnc43 := NB851_850.out; have hnb44 := NB850_852.out; have hnc44 := NB852_850.out; have hcz45_0 : w42.cell? ⟨gb850, 0, none⟩ = some (.bool a0_0) := (zKc BK850.out 0).trans rfl; have hcz45_1 : w42.cell? ⟨gb850, 1, none⟩ = some (.slice A0_1 l0_1.length c0_1) := (zKc BK850.out 1).trans rfl; have hfz45_0 := zKf BK850.out 0; have hfz45_1 := zKf BK850.out 1; have hnb46 := NB851_852.out; have hnc46 := NB852_851.out; have hcz47_0 : w42.cell? ⟨gb851, 0, none⟩ = some (.bool a1_0) := (zKc BK851.out 0).trans rfl; have hcz47_1 : w42.cell? ⟨gb851, 1, none⟩ = some (.slice A1_1 l1_1.length c1_1) := (zKc BK851.out 1).trans rfl; have hfz47_0 := zKf BK851.out 0; have hfz47_1 := zKf BK851.out 1)|((with_reducible refine gate_callee (f := 35) rfl ?_); refine goesL_ (some 25) rfl rfl Tryd.func35 (by kernel_rfl) rfl #[.slice A0_1 l0_1.length c0_1, .slice A1_1 l1_1.length c1_1] rfl (by (try simp only [zMa, zMc, zMn]); first |  done|  rfl|  (simp only [zLd, zLt]; rfl)) ?_; (with_reducible refine (n_Sub.calls k _ _ l0_1 (fun k_ => k_ < w.heap.size) _ _ l1_1 t860 t863 _ ?side1 ?side2 ?side3 A21.out).mono ?_); (case side1 => repeat (first |  exact (Kd.C_below HR0_1.out HB.out)|(with_reducible refine zCa ?_ _)|(with_reducible refine zCn ?_ _)|(with_reducible refine zCd ?_))); (case side2 => exact HC0_1.out); (case side3 => exact Kd.V_mk HC1_1.out (Kd.F_below (Kd.C_F (Kd.heap_int .u32) HR1_1.out) (by exact uT HB.out))); rintro e w48 ⟨v861, rfl, ho0, hb⟩; refine ⟨_, rfl, ?_⟩; have HO862 := zMk (zVl (zVm (ok' := fun k_ => k_ ≠ gb850 ∧ k_ ≠ gb851 ∧ k_ ≠ gb852) ho0 (fun k_ hk_ => ⟨Or.elim hk_ (fun hs_ => fun e_ => Nat.not_le.2 hs_ (by rw [e_]; exact GW850.out)) (fun hn_ => (Kd.freshB (g := gb850) (o := .cells #[.bool a0_0, .slice A0_1 l0_1.length c0_1] 24 (0, 0)) (by (with_reducible repeat (first |  refine zKn ?_ _|  refine zKd ?_|  refine zKa ?_ _)); exact BK850.out) k_ hn_)), Or.elim hk_ (fun hs_ => fun e_ => Nat.not_le.2 hs_ (by rw [e_]; exact GW851.out)) (fun hn_ => (Kd.freshB (g := gb851) (o := .cells #[.bool a1_0, .slice A1_1 l1_1.length c1_1] 24 (0, 0)) (by (with_reducible repeat (first |  refine zKn ?_ _|  refine zKd ?_|  refine zKa ?_ _)); exact BK851.out) k_ hn_)), Or.elim hk_ (fun hs_ => fun e_ => Nat.not_le.2 hs_ (by rw [e_]; exact GW852.out)) (fun hn_ => (Kd.freshB (g := gb852) (o := .cells #[.bool false, .slice none 0 0] 24 (0, 0)) (by (with_reducible repeat (first |  refine zKn ?_ _|  refine zKd ?_|  refine zKa ?_ _)); exact BK852.out) k_ hn_))⟩)) (zBs (by exact uT HB.out))); replace BK850 := zMk (zKb (g := gb850) (o := .cells #[.bool a0_0, .slice A0_1 l0_1.length c0_1] 24 (0, 0)) (by (with_reducible repeat (first |  refine zKn ?_ _|  refine zKd ?_|  refine zKa ?_ _)); exact BK850.out) hb); replace BK851 := zMk (zKb (g := gb851) (o := .cells #[.bool a1_0, .slice A1_1 l1_1.length c1_1] 24 (0, 0)) (by (with_reducible repeat (first |  refine zKn ?_ _|  refine zKd ?_|  refine zKa ?_ _)); exact BK851.out) hb); replace BK852 := zMk (zKb (g := gb852) (o := .cells #[.bool false, .slice none 0 0] 24 (0, 0)) (by (with_reducible repeat (first |  refine zKn ?_ _|  refine zKd ?_|  refine zKa ?_ _)); exact BK852.out) hb); replace HB := zMk (zBt (by exact uT HB.out) hb); have hcz49_0 : w48.cell? ⟨gb851, 0, none⟩ = some (.bool a1_0) := (zKc BK851.out 0).trans rfl; have hcz49_1 : w48.cell? ⟨gb851, 1, none⟩ = some (.slice A1_1 l1_1.length c1_1) := (zKc BK851.out 1).trans rfl; have hfz49_0 := zKf BK851.out 0; have hfz49_1 := zKf BK851.out 1; have hcz50_0 : w48.cell? ⟨gb850, 0, none⟩ = some (.bool a0_0) := (zKc BK850.out 0).trans rfl; have hcz50_1 : w48.cell? ⟨gb850, 1, none⟩ = some (.slice A0_1 l0_1.length c0_1) := (zKc BK850.out 1).trans rfl; have hfz50_0 := zKf BK850.out 0; have hfz50_1 := zKf BK850.out 1)|((with_reducible refine gate_callee (f := 35) rfl ?_); refine goesL_ (some 39) rfl rfl Tryd.func35 (by kernel_rfl) rfl #[.slice A1_1 l1_1.length c1_1, .slice A0_1 l0_1.length c0_1] rfl (by (try simp only [zMa, zMc, zMn]); first |  done|  rfl|  (simp only [zLd, zLt]; rfl)) ?_; (with_reducible refine (n_Sub.calls k _ _ l1_1 (fun k_ => k_ < w.heap.size) _ _ l0_1 t868 t871 _ ?side1 ?side2 ?side3 A38.out).mono ?_); (case side1 => repeat (first |  exact (Kd.C_below HR1_1.out HB.out)|(with_reducible refine zCa ?_ _)|(with_reducible refine zCn ?_ _)|(with_reducible refine zCd ?_))); (case side2 => exact HC1_1.out); (case side3 => exact Kd.V_mk HC0_1.out (Kd.F_below (Kd.C_F (Kd.heap_int .u32) HR0_1.out) (by exact uT HB.out))); rintro e w51 ⟨v869, rfl, ho0, hb⟩; refine ⟨_, rfl, ?_⟩; replace HO862 := zMk (zVb (by exact uV HO862.out) hb); have HO870 := zMk (zVl (zVm (ok' := fun k_ => k_ ≠ gb850 ∧ k_ ≠ gb851 ∧ k_ ≠ gb852) ho0 (fun k_ hk_ => ⟨Or.elim hk_ (fun hs_ => fun e_ => Nat.not_le.2 hs_ (by rw [e_]; exact GW850.out)) (fun hn_ => (Kd.freshB (g := gb850) (o := .cells #[.bool a0_0, .slice A0_1 l0_1.length c0_1] 24 (0, 0)) (by (with_reducible repeat (first |  refine zKn ?_ _|  refine zKd ?_|  refine zKa ?_ _)); exact BK850.out) k_ hn_)), Or.elim hk_ (fun hs_ => fun e_ => Nat.not_le.2 hs_ (by rw [e_]; exact GW851.out)) (fun hn_ => (Kd.freshB (g := gb851) (o := .cells #[.bool a1_0, .slice A1_1 l1_1.length c1_1] 24 (0, 0)) (by (with_reducible repeat (first |  refine zKn ?_ _|  refine zKd ?_|  refine zKa ?_ _)); exact BK851.out) k_ hn_)), Or.elim hk_ (fun hs_ => fun e_ => Nat.not_le.2 hs_ (by rw [e_]; exact GW852.out)) (fun hn_ => (Kd.freshB (g := gb852) (o := .cells #[.bool false, .slice none 0 0] 24 (0, 0)) (by (with_reducible repeat (first |  refine zKn ?_ _|  refine zKd ?_|  refine zKa ?_ _)); exact BK852.out) k_ hn_))⟩)) (zBs (by exact uT HB.out))); replace BK850 := zMk (zKb (g := gb850) (o := .cells #[.bool a0_0, .slice A0_1 l0_1.length c0_1] 24 (0, 0)) (by (with_reducible repeat (first |  refine zKn ?_ _|  refine zKd ?_|  refine zKa ?_ _)); exact BK850.out) hb); replace BK851 := zMk (zKb (g := gb851) (o := .cells #[.bool a1_0, .slice A1_1 l1_1.length c1_1] 24 (0, 0)) (by (with_reducible repeat (first |  refine zKn ?_ _|  refine zKd ?_|  refine zKa ?_ _)); exact BK851.out) hb); replace BK852 := zMk (zKb (g := gb852) (o := .cells #[.bool false, .slice none 0 0] 24 (0, 0)) (by (with_reducible repeat (first |  refine zKn ?_ _|  refine zKd ?_|  refine zKa ?_ _)); exact BK852.out) hb); replace HB := zMk (zBt (by exact uT HB.out) hb); have hcz52_0 : w51.cell? ⟨gb851, 0, none⟩ = some (.bool a1_0) := (zKc BK851.out 0).trans rfl; have hcz52_1 : w51.cell? ⟨gb851, 1, none⟩ = some (.slice A1_1 l1_1.length c1_1) := (zKc BK851.out 1).trans rfl; have hfz52_0 := zKf BK851.out 0; have hfz52_1 := zKf BK851.out 1; obtain ⟨Ao53, co53, eo53⟩ := zVs HO870.out; subst eo53)|((with_reducible refine gate_callee (f := 36) rfl ?_); refine goesL_ (some 45) rfl rfl Tryd.func36 (by kernel_rfl) rfl #[.bool a1_0, .slice Ao53 t868.length co53] rfl (by (try simp only [zMa, zMc, zMn]); first |  done|  rfl|  (simp only [zLd, zLt]; rfl)) ?_; (with_reducible refine (integer_signed.calls a1_0 _ _ t868 t872 t873 _ ?side1 ?side2 A39.out).mono ?_); (case side1 => exact uC (zVr HO870.out).2.2); (case side2 => exact (zVr HO870.out).2.1); rintro e w54 ⟨v874, rfl, ho0, hb⟩; refine ⟨_, rfl, ?_⟩; replace HO862 := zMk (zVe (by exact uV HO862.out) (zRz ho0) hb); replace HO870 := zMk (zVe (by exact uV HO870.out) (zRz ho0) hb); have HO875 := zMk (zRl ho0 (zBs (by exact uT HB.out))); replace BK850 := zMk (zKb (g := gb850) (o := .cells #[.bool a0_0, .slice A0_1 l0_1.length c0_1] 24 (0, 0)) (by (with_reducible repeat (first |  refine zKn ?_ _|  refine zKd ?_|  refine zKa ?_ _)); exact BK850.out) hb); replace BK851 := zMk (zKb (g := gb851) (o := .cells #[.bool a1_0, .slice A1_1 l1_1.length c1_1] 24 (0, 0)) (by (with_reducible repeat (first |  refine zKn ?_ _|  refine zKd ?_|  refine zKa ?_ _)); exact BK851.out) hb); replace BK852 := zMk (zKb (g := gb852) (o := .cells #[.bool false, .slice none 0 0] 24 (0, 0)) (by (with_reducible repeat (first |  refine zKn ?_ _|  refine zKd ?_|  refine zKa ?_ _)); exact BK852.out) hb); replace HB := zMk (zBt (by exact uT HB.out) hb); have hcz55_0 : w54.cell? ⟨gb852, 0, none⟩ = some (.bool false) := (zKc BK852.out 0).trans rfl; have hcz55_1 : w54.cell? ⟨gb852, 1, none⟩ = some (.slice none 0 0) := (zKc BK852.out 1).trans rfl; have hfz55_0 := zKf BK852.out 0; have hfz55_1 := zKf BK852.out 1; obtain ⟨Ao56, co56, eo56⟩ := zRs HO875.out; subst eo56))
      refine bodyPost_ret (results_cell_row rfl _ _ gb852 24 #[.bool t872, .slice Ao56 t873.length co56] (0, 0) _ rfl (by (with_reducible repeat (first | refine zKn ?_ _ | refine zKd ?_ | refine zKa ?_ _)); refine blk_put (cs := #[.bool t872, .slice none 0 0]) ?_ 1 _ rfl; (with_reducible repeat (first | refine zKn ?_ _ | refine zKd ?_ | refine zKa ?_ _)); refine blk_put (cs := #[.bool false, .slice none 0 0]) ?_ 0 _ rfl; (with_reducible repeat (first | refine zKn ?_ _ | refine zKd ?_ | refine zKa ?_ _)); exact BK852.out) Tryd.underlying24 rfl (by kernel_rfl)) rfl ?_
      exact ⟨_, by first | rfl | (simp [errW_none, errW_some] <;> rfl) | (simp [*, errW_none, errW_some] <;> rfl), by (with_reducible repeat (first | apply zRa | apply zRn | apply zRd)); exact zRm (Kd.R_far (p := ⟨gb852, 1, none⟩) (Kd.R_far (p := ⟨gb852, 0, none⟩) (Kd.R_types HO875.out BK852.out (by decide)) (fun _ hk => hk.2) (.bool t872)) (fun _ hk => hk.2) (.slice Ao56 t873.length co56)) (fun _ hk => trivial), by exact uT HB.out⟩


def integer_Neg.f (a0_0 : Bool) (l0_1 : List Int) : Option (Bool × List Int) := (integer_signed.f (!a0_0) l0_1).bind fun bt878 => (some (bt878.1, bt878.2))
theorem integer_Neg.calls (a0_0 : Bool) (A0_1 : Option Addr) (c0_1 : Nat) (l0_1 : List Int) (r1 : Bool) (r2 : List Int) (w : World) (hr0_1 : Kd.C (Kd.int .u32) w A0_1 l0_1.length l0_1) (hc0_1 : l0_1.length ≤ c0_1) (h : integer_Neg.f a0_0 l0_1 = some (r1, r2)) :
    Calls Tryd.prog 23 #[.agg #[.bool a0_0, .slice A0_1 l0_1.length c0_1]] w fun e w' => ∃ v1_ : Value, e = .returned (.agg #[.bool r1, v1_]) ∧ Kd.R (Kd.int .u32) 58 w' w.heap.size (fun _ => True) v1_ r2 ∧ Below w.heap.size w w' := by
  have hu24 := Tryd.underlying24
  have HR0_1 := zMk hr0_1
  have HC0_1 := zMk hc0_1
  clear hr0_1 hc0_1
  have HB := zMk (Below.refl w.heap.size w)
  have H : ((integer_signed.f (!a0_0) l0_1).bind fun bt878 => (some (bt878.1, bt878.2))) = some (r1, r2) := h
  clear h
  replace H := bnd H
  obtain ⟨⟨t878, t879⟩, A20, H⟩ := H
  replace H : (some (t878, t879)) = some (r1, r2) := H
  have A2 := zMk A20
  clear A20
  simp only [Option.some.injEq, Prod.mk.injEq] at H
  obtain ⟨rfl, rfl⟩ := H
  go_enter Tryd.func23, Tryd.ntmps23
  go_wp2_with (first | ((with_reducible refine gate_dst (N := 1) rfl ?_); refine box_event ?hg (N := 1) ?hd (cs := #[.bool a0_0, .slice A0_1 l0_1.length c0_1]) (t := 24) ?hr ?_; (case hd => rfl); (case hg => rfl); (case hr => first | (go_simp; done)|(go_simp; rfl)|(go_simp; rw [show ∀ x : Int, IntKind.u32.wrap (IntKind.u8.wrap x) = x % 256 from fun x => (by show (x % 256) % 4294967296 = x % 256; omega)])); intro gb876 hg w3 hbox hb; have BK876 := zMk (hbox); have GW876 := zMk ((by rw [hg]; exact (zBs (by exact uT HB.out)) : w.heap.size ≤ gb876)); have GE876 := zMk ((by rw [hg]; exact (zBs (by exact uT HB.out)) : w.heap.size ≤ gb876)); have IGE876 := ownGe GE876.out; replace HB := zMk (zBt (by exact uT HB.out) hb); clear hb hbox hg)|((with_reducible refine gate_dst (N := 2) rfl ?_); refine box_event ?hg (N := 2) ?hd (cs := #[.bool false, .slice none 0 0]) (t := 24) ?hr ?_; (case hd => rfl); (case hg => rfl); (case hr => first | (go_simp; done)|(go_simp; rfl)|(go_simp; rw [show ∀ x : Int, IntKind.u32.wrap (IntKind.u8.wrap x) = x % 256 from fun x => (by show (x % 256) % 4294967296 = x % 256; omega)])); intro gb877 hg w4 hbox hb; have BK877 := zMk (hbox); have GW877 := zMk ((by rw [hg]; exact (zBs (by exact uT HB.out)) : w.heap.size ≤ gb877)); have GE877 := zMk ((by rw [hg]; exact (zBs (by exact uT HB.out)) : w.heap.size ≤ gb877)); have IGE877 := ownGe GE877.out; replace HB := zMk (zBt (by exact uT HB.out) hb); have NB876_877 := zMk ((by rw [hg]; exact Nat.ne_of_lt (blk_lt (g := gb876) (o := .cells #[.bool a0_0, .slice A0_1 l0_1.length c0_1] 24 (0, 0)) (by (with_reducible repeat (first |  refine zKn ?_ _|  refine zKd ?_|  refine zKa ?_ _)); exact BK876.out)) : gb876 ≠ gb877)); have NB877_876 := zMk ((by rw [hg]; exact Nat.ne_of_gt (blk_lt (g := gb876) (o := .cells #[.bool a0_0, .slice A0_1 l0_1.length c0_1] 24 (0, 0)) (by (with_reducible repeat (first |  refine zKn ?_ _|  refine zKd ?_|  refine zKa ?_ _)); exact BK876.out)) : gb877 ≠ gb876)); replace BK876 := zMk (zKb (g := gb876) (o := .cells #[.bool a0_0, .slice A0_1 l0_1.length c0_1] 24 (0, 0)) (by (with_reducible repeat (first |  refine zKn ?_ _|  refine zKd ?_|  refine zKa ?_ _)); exact BK876.out) hb); clear hb hbox hg; have hnb5 := NB876_877.out; have hnc5 := NB877_876.out; have hcz6_0 : w4.cell? ⟨gb876, 0, none⟩ = some (.bool a0_0) := (zKc BK876.out 0).trans rfl; have hcz6_1 : w4.cell? ⟨gb876, 1, none⟩ = some (.slice A0_1 l0_1.length c0_1) := (zKc BK876.out 1).trans rfl; have hfz6_0 := zKf BK876.out 0; have hfz6_1 := zKf BK876.out 1)|((with_reducible refine gate_callee (f := 36) rfl ?_); refine goesL_ (some 8) rfl rfl Tryd.func36 (by kernel_rfl) rfl #[.bool (!a0_0), .slice A0_1 l0_1.length c0_1] rfl (by (try simp only [zMa, zMc, zMn]); first |  done|  rfl|  (simp only [zLd, zLt]; rfl)) ?_; (with_reducible refine (integer_signed.calls (!a0_0) _ _ l0_1 t878 t879 _ ?side1 ?side2 A2.out).mono ?_); (case side1 => repeat (first |  exact (Kd.C_below HR0_1.out HB.out)|(with_reducible refine zCa ?_ _)|(with_reducible refine zCn ?_ _)|(with_reducible refine zCd ?_))); (case side2 => exact HC0_1.out); rintro e w7 ⟨v880, rfl, ho0, hb⟩; refine ⟨_, rfl, ?_⟩; have HO881 := zMk (zRl ho0 (zBs (by exact uT HB.out))); replace BK876 := zMk (zKb (g := gb876) (o := .cells #[.bool a0_0, .slice A0_1 l0_1.length c0_1] 24 (0, 0)) (by (with_reducible repeat (first |  refine zKn ?_ _|  refine zKd ?_|  refine zKa ?_ _)); exact BK876.out) hb); replace BK877 := zMk (zKb (g := gb877) (o := .cells #[.bool false, .slice none 0 0] 24 (0, 0)) (by (with_reducible repeat (first |  refine zKn ?_ _|  refine zKd ?_|  refine zKa ?_ _)); exact BK877.out) hb); replace HB := zMk (zBt (by exact uT HB.out) hb); have hcz8_0 : w7.cell? ⟨gb877, 0, none⟩ = some (.bool false) := (zKc BK877.out 0).trans rfl; have hcz8_1 : w7.cell? ⟨gb877, 1, none⟩ = some (.slice none 0 0) := (zKc BK877.out 1).trans rfl; have hfz8_0 := zKf BK877.out 0; have hfz8_1 := zKf BK877.out 1; obtain ⟨Ao9, co9, eo9⟩ := zRs HO881.out; subst eo9))
  refine bodyPost_ret (results_cell_row rfl _ _ gb877 24 #[.bool t878, .slice Ao9 t879.length co9] (0, 0) _ rfl (by (with_reducible repeat (first | refine zKn ?_ _ | refine zKd ?_ | refine zKa ?_ _)); refine blk_put (cs := #[.bool t878, .slice none 0 0]) ?_ 1 _ rfl; (with_reducible repeat (first | refine zKn ?_ _ | refine zKd ?_ | refine zKa ?_ _)); refine blk_put (cs := #[.bool false, .slice none 0 0]) ?_ 0 _ rfl; (with_reducible repeat (first | refine zKn ?_ _ | refine zKd ?_ | refine zKa ?_ _)); exact BK877.out) Tryd.underlying24 rfl (by kernel_rfl)) rfl ?_
  exact ⟨_, by first | rfl | (simp [errW_none, errW_some] <;> rfl) | (simp [*, errW_none, errW_some] <;> rfl), by (with_reducible repeat (first | apply zRa | apply zRn | apply zRd)); exact zRm (Kd.R_far (p := ⟨gb877, 1, none⟩) (Kd.R_far (p := ⟨gb877, 0, none⟩) (Kd.R_types HO881.out BK877.out (by decide)) (fun _ hk => hk.2) (.bool t878)) (fun _ hk => hk.2) (.slice Ao9 t879.length co9)) (fun _ hk => trivial), by exact uT HB.out⟩


def integer_Norm.f (a0_0 : Bool) (l0_1 : List Int) : Option (Bool × List Int) := (integer_signed.f a0_0 l0_1).bind fun bt315 => (some (bt315.1, bt315.2))
theorem integer_Norm.calls (a0_0 : Bool) (A0_1 : Option Addr) (c0_1 : Nat) (l0_1 : List Int) (r1 : Bool) (r2 : List Int) (w : World) (hr0_1 : Kd.C (Kd.int .u32) w A0_1 l0_1.length l0_1) (hc0_1 : l0_1.length ≤ c0_1) (h : integer_Norm.f a0_0 l0_1 = some (r1, r2)) :
    Calls Tryd.prog 47 #[.agg #[.bool a0_0, .slice A0_1 l0_1.length c0_1]] w fun e w' => ∃ v1_ : Value, e = .returned (.agg #[.bool r1, v1_]) ∧ Kd.R (Kd.int .u32) 58 w' w.heap.size (fun _ => True) v1_ r2 ∧ Below w.heap.size w w' := by
  have hu24 := Tryd.underlying24
  have HR0_1 := zMk hr0_1
  have HC0_1 := zMk hc0_1
  clear hr0_1 hc0_1
  have HB := zMk (Below.refl w.heap.size w)
  have H : ((integer_signed.f a0_0 l0_1).bind fun bt315 => (some (bt315.1, bt315.2))) = some (r1, r2) := h
  clear h
  replace H := bnd H
  obtain ⟨⟨t315, t316⟩, A20, H⟩ := H
  replace H : (some (t315, t316)) = some (r1, r2) := H
  have A2 := zMk A20
  clear A20
  simp only [Option.some.injEq, Prod.mk.injEq] at H
  obtain ⟨rfl, rfl⟩ := H
  go_enter Tryd.func47, Tryd.ntmps47
  go_wp2_with (first | ((with_reducible refine gate_dst (N := 1) rfl ?_); refine box_event ?hg (N := 1) ?hd (cs := #[.bool a0_0, .slice A0_1 l0_1.length c0_1]) (t := 24) ?hr ?_; (case hd => rfl); (case hg => rfl); (case hr => first | (go_simp; done)|(go_simp; rfl)|(go_simp; rw [show ∀ x : Int, IntKind.u32.wrap (IntKind.u8.wrap x) = x % 256 from fun x => (by show (x % 256) % 4294967296 = x % 256; omega)])); intro gb313 hg w3 hbox hb; have BK313 := zMk (hbox); have GW313 := zMk ((by rw [hg]; exact (zBs (by exact uT HB.out)) : w.heap.size ≤ gb313)); have GE313 := zMk ((by rw [hg]; exact (zBs (by exact uT HB.out)) : w.heap.size ≤ gb313)); have IGE313 := ownGe GE313.out; replace HB := zMk (zBt (by exact uT HB.out) hb); clear hb hbox hg)|((with_reducible refine gate_dst (N := 2) rfl ?_); refine box_event ?hg (N := 2) ?hd (cs := #[.bool false, .slice none 0 0]) (t := 24) ?hr ?_; (case hd => rfl); (case hg => rfl); (case hr => first | (go_simp; done)|(go_simp; rfl)|(go_simp; rw [show ∀ x : Int, IntKind.u32.wrap (IntKind.u8.wrap x) = x % 256 from fun x => (by show (x % 256) % 4294967296 = x % 256; omega)])); intro gb314 hg w4 hbox hb; have BK314 := zMk (hbox); have GW314 := zMk ((by rw [hg]; exact (zBs (by exact uT HB.out)) : w.heap.size ≤ gb314)); have GE314 := zMk ((by rw [hg]; exact (zBs (by exact uT HB.out)) : w.heap.size ≤ gb314)); have IGE314 := ownGe GE314.out; replace HB := zMk (zBt (by exact uT HB.out) hb); have NB313_314 := zMk ((by rw [hg]; exact Nat.ne_of_lt (blk_lt (g := gb313) (o := .cells #[.bool a0_0, .slice A0_1 l0_1.length c0_1] 24 (0, 0)) (by (with_reducible repeat (first |  refine zKn ?_ _|  refine zKd ?_|  refine zKa ?_ _)); exact BK313.out)) : gb313 ≠ gb314)); have NB314_313 := zMk ((by rw [hg]; exact Nat.ne_of_gt (blk_lt (g := gb313) (o := .cells #[.bool a0_0, .slice A0_1 l0_1.length c0_1] 24 (0, 0)) (by (with_reducible repeat (first |  refine zKn ?_ _|  refine zKd ?_|  refine zKa ?_ _)); exact BK313.out)) : gb314 ≠ gb313)); replace BK313 := zMk (zKb (g := gb313) (o := .cells #[.bool a0_0, .slice A0_1 l0_1.length c0_1] 24 (0, 0)) (by (with_reducible repeat (first |  refine zKn ?_ _|  refine zKd ?_|  refine zKa ?_ _)); exact BK313.out) hb); clear hb hbox hg; have hnb5 := NB313_314.out; have hnc5 := NB314_313.out; have hcz6_0 : w4.cell? ⟨gb313, 0, none⟩ = some (.bool a0_0) := (zKc BK313.out 0).trans rfl; have hcz6_1 : w4.cell? ⟨gb313, 1, none⟩ = some (.slice A0_1 l0_1.length c0_1) := (zKc BK313.out 1).trans rfl; have hfz6_0 := zKf BK313.out 0; have hfz6_1 := zKf BK313.out 1)|((with_reducible refine gate_callee (f := 36) rfl ?_); refine goesL_ (some 7) rfl rfl Tryd.func36 (by kernel_rfl) rfl #[.bool a0_0, .slice A0_1 l0_1.length c0_1] rfl (by (try simp only [zMa, zMc, zMn]); first |  done|  rfl|  (simp only [zLd, zLt]; rfl)) ?_; (with_reducible refine (integer_signed.calls a0_0 _ _ l0_1 t315 t316 _ ?side1 ?side2 A2.out).mono ?_); (case side1 => repeat (first |  exact (Kd.C_below HR0_1.out HB.out)|(with_reducible refine zCa ?_ _)|(with_reducible refine zCn ?_ _)|(with_reducible refine zCd ?_))); (case side2 => exact HC0_1.out); rintro e w7 ⟨v317, rfl, ho0, hb⟩; refine ⟨_, rfl, ?_⟩; have HO318 := zMk (zRl ho0 (zBs (by exact uT HB.out))); replace BK313 := zMk (zKb (g := gb313) (o := .cells #[.bool a0_0, .slice A0_1 l0_1.length c0_1] 24 (0, 0)) (by (with_reducible repeat (first |  refine zKn ?_ _|  refine zKd ?_|  refine zKa ?_ _)); exact BK313.out) hb); replace BK314 := zMk (zKb (g := gb314) (o := .cells #[.bool false, .slice none 0 0] 24 (0, 0)) (by (with_reducible repeat (first |  refine zKn ?_ _|  refine zKd ?_|  refine zKa ?_ _)); exact BK314.out) hb); replace HB := zMk (zBt (by exact uT HB.out) hb); have hcz8_0 : w7.cell? ⟨gb314, 0, none⟩ = some (.bool false) := (zKc BK314.out 0).trans rfl; have hcz8_1 : w7.cell? ⟨gb314, 1, none⟩ = some (.slice none 0 0) := (zKc BK314.out 1).trans rfl; have hfz8_0 := zKf BK314.out 0; have hfz8_1 := zKf BK314.out 1; obtain ⟨Ao9, co9, eo9⟩ := zRs HO318.out; subst eo9))
  refine bodyPost_ret (results_cell_row rfl _ _ gb314 24 #[.bool t315, .slice Ao9 t316.length co9] (0, 0) _ rfl (by (with_reducible repeat (first | refine zKn ?_ _ | refine zKd ?_ | refine zKa ?_ _)); refine blk_put (cs := #[.bool t315, .slice none 0 0]) ?_ 1 _ rfl; (with_reducible repeat (first | refine zKn ?_ _ | refine zKd ?_ | refine zKa ?_ _)); refine blk_put (cs := #[.bool false, .slice none 0 0]) ?_ 0 _ rfl; (with_reducible repeat (first | refine zKn ?_ _ | refine zKd ?_ | refine zKa ?_ _)); exact BK314.out) Tryd.underlying24 rfl (by kernel_rfl)) rfl ?_
  exact ⟨_, by first | rfl | (simp [errW_none, errW_some] <;> rfl) | (simp [*, errW_none, errW_some] <;> rfl), by (with_reducible repeat (first | apply zRa | apply zRn | apply zRd)); exact zRm (Kd.R_far (p := ⟨gb314, 1, none⟩) (Kd.R_far (p := ⟨gb314, 0, none⟩) (Kd.R_types HO318.out BK314.out (by decide)) (fun _ hk => hk.2) (.bool t315)) (fun _ hk => hk.2) (.slice Ao9 t316.length co9)) (fun _ hk => trivial), by exact uT HB.out⟩


mutual
def n_Mul.l0 : Nat → List Int → List Int → List Int → Int → Int → Option (List Int)
  | 0, _, _, _, _, _ => none
  | k + 1, x1, x5, x22, x23, x24 => if x24 < x23 then (if 0 ≤ x24 then (if x24 < (x22.length : Int) then (n_Mul.l1 k x1 x5 x24 (rd x22 x24) 0 x22 x23 x24 x1 (x1.length : Int) 0) else (none)) else (none)) else ((n_cut.f x5).bind fun t116 => (some t116))
def n_Mul.l1 : Nat → List Int → List Int → Int → Int → Int → List Int → Int → Int → List Int → Int → Int → Option (List Int)
  | 0, _, _, _, _, _, _, _, _, _, _, _ => none
  | k + 1, x1, x5, x6, x7, x8, x22, x23, x24, x29, x30, x31 => if x31 < x30 then (if 0 ≤ x31 then (if x31 < (x29.length : Int) then (if 0 ≤ (wrap64 (x6 + x31)) then (if (wrap64 (x6 + x31)) < (x5.length : Int) then (n_Mul.l1 k x1 (x5.set ((wrap64 (x6 + x31)) : Int).toNat ((IntKind.u64.wrap ((IntKind.u64.wrap ((IntKind.u64.wrap ((IntKind.u64.wrap (x7)) * (IntKind.u64.wrap (rd x29 x31)))) + (IntKind.u64.wrap (rd x5 (wrap64 (x6 + x31)))))) + x8)) % 4294967296)) x6 x7 ((IntKind.u64.wrap ((IntKind.u64.wrap ((IntKind.u64.wrap ((IntKind.u64.wrap (x7)) * (IntKind.u64.wrap (rd x29 x31)))) + (IntKind.u64.wrap (rd x5 (wrap64 (x6 + x31)))))) + x8)) / 4294967296) x22 x23 x24 x29 x30 (wrap64 (x31 + 1))) else (none)) else (none)) else (none)) else (none)) else (if 0 ≤ (wrap64 (x6 + (x1.length : Int))) then (if (wrap64 (x6 + (x1.length : Int))) < (x5.length : Int) then (n_Mul.l0 k x1 (x5.set ((wrap64 (x6 + (x1.length : Int))) : Int).toNat ((x8) % 4294967296)) x22 x23 (wrap64 (x24 + 1))) else (none)) else (none))
end
def n_Mul.f (k : Nat) (l0 : List Int) (l1 : List Int) : Option (List Int) := (n_cut.f l0).bind fun t107 => ((n_cut.f l1).bind fun t110 => (if 0 ≤ (wrap64 ((t107.length : Int) + (t110.length : Int))) then (if (wrap64 ((t107.length : Int) + (t110.length : Int)) : Int).toNat ≤ 70368744177664 then (n_Mul.l0 k t110 (List.replicate (wrap64 ((t107.length : Int) + (t110.length : Int)) : Int).toNat 0) t107 (t107.length : Int) 0) else (none)) else (none)))
theorem n_Mul.calls (k : Nat) (P0_ : Nat → Prop) (A0 : Option Addr) (c0 : Nat) (l0 : List Int) (P1_ : Nat → Prop) (A1 : Option Addr) (c1 : Nat) (l1 : List Int) (r : List Int) (w : World) (hs0 : Kd.V (Kd.int .u32) 58 w w.heap.size (fun k_ => P0_ k_) (.slice A0 l0.length c0) l0) (hs1 : Kd.V (Kd.int .u32) 58 w w.heap.size (fun k_ => P1_ k_) (.slice A1 l1.length c1) l1) (h : n_Mul.f k l0 l1 = some r) :
    Calls Tryd.prog 45 #[.slice A0 l0.length c0, .slice A1 l1.length c1] w fun e w' => ∃ v0_ : Value, e = .returned (v0_) ∧ Kd.V (Kd.int .u32) 58 w' w.heap.size (fun k_ => ((P0_ k_ ∨ P1_ k_) ∨ w.heap.size ≤ k_)) v0_ r ∧ Below w.heap.size w w' := by
  have HO0 := zMk (show Kd.V (Kd.int .u32) 58 w w.heap.size (fun k_ => ((P0_ k_ ∨ P1_ k_) ∨ w.heap.size ≤ k_)) (.slice A0 l0.length c0) l0 from zVm hs0 (fun k_ hk => .inl (.inl hk)))
  have HO1 := zMk (show Kd.V (Kd.int .u32) 58 w w.heap.size (fun k_ => ((P0_ k_ ∨ P1_ k_) ∨ w.heap.size ≤ k_)) (.slice A1 l1.length c1) l1 from zVm hs1 (fun k_ hk => .inl (.inr hk)))
  have HB := zMk (Below.refl w.heap.size w)
  have H : ((n_cut.f l0).bind fun t107 => ((n_cut.f l1).bind fun t110 => (if 0 ≤ (wrap64 ((t107.length : Int) + (t110.length : Int))) then (if (wrap64 ((t107.length : Int) + (t110.length : Int)) : Int).toNat ≤ 70368744177664 then (n_Mul.l0 k t110 (List.replicate (wrap64 ((t107.length : Int) + (t110.length : Int)) : Int).toNat 0) t107 (t107.length : Int) 0) else (none)) else (none)))) = some r := h
  clear h
  replace H := bnd H
  obtain ⟨t107, A30, H⟩ := H
  have A3 := zMk A30
  clear A30
  replace H := bnd H
  obtain ⟨t110, A40, H⟩ := H
  have A4 := zMk A40
  clear A40
  obtain ⟨ji5, hji5⟩ : ∃ j_ : Int, (wrap64 ((t107.length : Int) + (t110.length : Int))) = j_ := ⟨_, rfl⟩
  replace H : (if 0 ≤ (ji5) then (if (ji5 : Int).toNat ≤ 70368744177664 then (n_Mul.l0 k t110 (List.replicate (ji5 : Int).toNat 0) t107 (t107.length : Int) 0) else (none)) else (none)) = some r := by first | (rw [hji5] at H; exact H) | (simp only [hji5] at H ⊢; exact H)
  (try rw [hji5] at A3)
  (try rw [hji5] at A4)
  have hji5w : (IntKind.i64.wrap ((t107.length : Int) + (t110.length : Int))) = ji5 := (i64_w _).trans hji5
  by_cases c6 : 0 ≤ (ji5)
  · rw [if_pos c6] at H
    have c6b0 := eq_true c6
    have c6b1 : decide (0 ≤ (ji5)) = true := decide_eq_true c6
    clear c6
    by_cases c7 : (ji5 : Int).toNat ≤ 70368744177664
    rotate_left
    · rw [if_neg c7] at H; exact absurd H (by simp)
    rw [if_pos c7] at H
    have c7b0 := eq_true c7
    have c7b1 : decide ((ji5 : Int).toNat ≤ 70368744177664) = true := decide_eq_true c7
    clear c7
    obtain ⟨y113, hy113⟩ : ∃ y_ : List Int, y_ = (List.replicate (ji5 : Int).toNat 0) := ⟨_, rfl⟩
    replace H : (n_Mul.l0 k t110 y113 t107 (t107.length : Int) 0) = some r := by first | (rw [hy113]; with_reducible exact H) | (have H2_ := bsm H; first | (rw [hy113]; with_reducible exact H2_) | with_reducible exact H2_) | with_reducible exact H | (rw [hy113]; exact H) | exact H
    have Ny113 := zMk hy113
    clear hy113
    have H' := zMk H
    clear H
    go_enter Tryd.func45, Tryd.ntmps45
    go_wp2_with (first | ((with_reducible refine gate_callee (f := 56) rfl ?_); refine goesL_ (some 13) rfl rfl Tryd.func56 (by kernel_rfl) rfl #[.slice A0 l0.length c0] rfl (by (try simp only [zMa, zMc, zMn]); first |  done|  rfl|  (simp only [zLd, zLt]; rfl)) ?_; (with_reducible refine (n_cut.calls (fun k_ => ((P0_ k_ ∨ P1_ k_) ∨ w.heap.size ≤ k_)) _ _ l0 t107 _ ?side1 A3.out).mono ?_); (case side1 => exact HO0.out); rintro e w8 ⟨v108, rfl, ho0, hb⟩; refine ⟨_, rfl, ?_⟩; replace HO0 := zMk (zVb (by exact uV HO0.out) hb); replace HO1 := zMk (zVb (by exact uV HO1.out) hb); have HO109 := zMk (zVl (zVm (ok' := fun k_ => ((P0_ k_ ∨ P1_ k_) ∨ w.heap.size ≤ k_)) ho0 (fun k_ hk_ => Or.elim hk_ (fun hs_ => hs_) (fun hn_ => (.inr (Nat.le_trans (zBs (by exact uT HB.out)) hn_))))) (zBs (by exact uT HB.out))); replace HB := zMk (zBt (by exact uT HB.out) hb))|((with_reducible refine gate_callee (f := 56) rfl ?_); refine goesL_ (some 15) rfl rfl Tryd.func56 (by kernel_rfl) rfl #[.slice A1 l1.length c1] rfl (by (try simp only [zMa, zMc, zMn]); first |  done|  rfl|  (simp only [zLd, zLt]; rfl)) ?_; (with_reducible refine (n_cut.calls (fun k_ => ((P0_ k_ ∨ P1_ k_) ∨ w.heap.size ≤ k_)) _ _ l1 t110 _ ?side1 A4.out).mono ?_); (case side1 => exact HO1.out); rintro e w9 ⟨v111, rfl, ho0, hb⟩; refine ⟨_, rfl, ?_⟩; replace HO0 := zMk (zVb (by exact uV HO0.out) hb); replace HO1 := zMk (zVb (by exact uV HO1.out) hb); replace HO109 := zMk (zVb (by exact uV HO109.out) hb); have HO112 := zMk (zVl (zVm (ok' := fun k_ => ((P0_ k_ ∨ P1_ k_) ∨ w.heap.size ≤ k_)) ho0 (fun k_ hk_ => Or.elim hk_ (fun hs_ => hs_) (fun hn_ => (.inr (Nat.le_trans (zBs (by exact uT HB.out)) hn_))))) (zBs (by exact uT HB.out))); replace HB := zMk (zBt (by exact uT HB.out) hb); obtain ⟨Ao10, co10, eo10⟩ := zVs HO109.out; subst eo10; obtain ⟨Ao11, co11, eo11⟩ := zVs HO112.out; subst eo11)|((with_reducible refine gate_dst (N := 21) rfl ?_); refine Kd.R_make (Kd.int .u32) _ 58 rfl (N := 21) rfl 22 _ _ rfl ji5 rfl rfl Tryd.underlying22 (.int .u32 0) 4 info58 rfl (by decide) (by omega) 0 (ok := fun _ => True) (okp := fun _ => True) rfl (fun _ hk => hk) trivial (of_decide_eq_true (by first | (with_reducible assumption)|  assumption)) (Nat.le_trans (Nat.mul_le_mul_right _ (of_decide_eq_true (by first | (with_reducible assumption)|  assumption) : ji5.toNat ≤ 70368744177664)) (by omega)) (Below.refl _ _) (Nat.le_refl _) ?_; intro v114 w12 ho13 hb hg_ hnew_; clear hg_ hnew_; (first |  rw [← Ny113.out] at ho13|  (simp only [Int.reduceToNat] at ho13; rw [← Ny113.out] at ho13)); replace HO0 := zMk (zVe (by exact uV HO0.out) (zRz ho13) hb); replace HO1 := zMk (zVe (by exact uV HO1.out) (zRz ho13) hb); replace HO109 := zMk (zVe (by exact uV HO109.out) (zRz ho13) hb); replace HO112 := zMk (zVe (by exact uV HO112.out) (zRz ho13) hb); have HO115 := zMk (zRl (Kd.R_newM (M := fun k_ => (w.heap.size ≤ k_)) ho13 (zBs (by exact uT HB.out)) (fun k_ h_ => h_)) (zBs (by exact uT HB.out))); replace HB := zMk (zBt (by exact uT HB.out) hb); clear hb ho13))
    go_loopg [24] k (fun kq v24 w' => ∃ (x5_1 : List Int) (x24_1 : Int), v24 = .int .i64 x24_1 ∧ Aside0 (n_Mul.l0 kq t110 x5_1 t107 (t107.length : Int) x24_1 = some r) ∧ Aside0 (kq ≤ k) ∧ Aside0 (Kd.V (Kd.int .u32) 58 w' w.heap.size (fun k_ => ((P0_ k_ ∨ P1_ k_) ∨ w.heap.size ≤ k_) ∧ some k_ ≠ (v114 : Value).ownBlock) (.slice Ao11 t110.length co11) t110) ∧ Aside0 (Kd.R (Kd.int .u32) 58 w' w.heap.size (fun k_ => (w.heap.size ≤ k_)) v114 x5_1) ∧ Aside0 (Kd.V (Kd.int .u32) 58 w' w.heap.size (fun k_ => ((P0_ k_ ∨ P1_ k_) ∨ w.heap.size ≤ k_) ∧ some k_ ≠ (v114 : Value).ownBlock) (.slice Ao10 t107.length co10) t107) ∧ Aside0 (Below w.heap.size w w'))
    case atStart => exact ⟨(y113), (0), (by first | rfl | (simp; done) | (simp [*]; done)), H', ⟨Nat.le_refl _⟩, ⟨by exact uV HO112.out⟩, ⟨by (with_reducible repeat (first | apply zRa | apply zRn | apply zRd)); exact zRm HO115.out (fun _ hk => hk.1)⟩, ⟨by exact uV HO109.out⟩, ⟨by exact uT HB.out⟩⟩
    clear H'
    obtain ⟨x5_1, x24_1, rfl, HA, HK1, HO_1, HO_5, HO_22, HB⟩ := hrel
    rcases gk with _ | k1
    · exact absurd HA.out (by simp [n_Mul.l0])
    have H := HA.out
    clear HA
    simp only [n_Mul.l0] at H
    by_cases c14 : x24_1 < (t107.length : Int)
    · rw [if_pos c14] at H
      have c14b0 : decide (x24_1 < (t107.length : Int)) = true := decide_eq_true c14
      clear c14
      by_cases c15 : 0 ≤ x24_1
      rotate_left
      · rw [if_neg c15] at H; exact absurd H (by simp)
      rw [if_pos c15] at H
      have c15b0 : decide (0 ≤ x24_1) = true := decide_eq_true c15
      clear c15
      by_cases c16 : x24_1 < (t107.length : Int)
      rotate_left
      · rw [if_neg c16] at H; exact absurd H (by simp)
      rw [if_pos c16] at H
      have c16b0 : decide (x24_1 < (t107.length : Int)) = true := decide_eq_true c16
      clear c16
      have H' := zMk H
      clear H
      have p119 : 0 ≤ (x24_1 : Int) := of_decide_eq_true (by assumption)
      have q119 : x24_1 < (t107.length : Int) := of_decide_eq_true (by assumption)
      obtain ⟨ad119, e119, hx119_0⟩ := zAi (zVr HO_22.out).2.2 x24_1 p119 q119
      cases e119
      replace p119 := eq_true p119
      replace q119 := eq_true q119
      go_wp2
      go_loopg [8, 31] k1 (fun kq v8 v31 w' => ∃ (x5_2 : List Int) (x8_2 : Int) (x31_2 : Int), v8 = .int .u64 x8_2 ∧ v31 = .int .i64 x31_2 ∧ Aside0 (n_Mul.l1 kq t110 x5_2 x24_1 (rd t107 x24_1) x8_2 t107 (t107.length : Int) x24_1 t110 (t110.length : Int) x31_2 = some r) ∧ Aside0 (kq ≤ k1) ∧ Aside0 (Kd.V (Kd.int .u32) 58 w' w.heap.size (fun k_ => ((P0_ k_ ∨ P1_ k_) ∨ w.heap.size ≤ k_) ∧ some k_ ≠ (v114 : Value).ownBlock) (.slice Ao11 t110.length co11) t110) ∧ Aside0 (Kd.R (Kd.int .u32) 58 w' w.heap.size (fun k_ => (w.heap.size ≤ k_)) v114 x5_2) ∧ Aside0 (Kd.V (Kd.int .u32) 58 w' w.heap.size (fun k_ => ((P0_ k_ ∨ P1_ k_) ∨ w.heap.size ≤ k_) ∧ some k_ ≠ (v114 : Value).ownBlock) (.slice (some ad119) t107.length co10) t107) ∧ Aside0 (Kd.V (Kd.int .u32) 58 w' w.heap.size (fun k_ => ((P0_ k_ ∨ P1_ k_) ∨ w.heap.size ≤ k_) ∧ some k_ ≠ (v114 : Value).ownBlock) (.slice Ao11 t110.length co11) t110) ∧ Aside0 (Below w.heap.size w w'))
      case atStart => exact ⟨(x5_1), (0), (0), (by first | rfl | (simp; done) | (simp [*]; done)), (by first | rfl | (simp; done) | (simp [*]; done)), H', ⟨Nat.le_refl _⟩, ⟨by exact uV HO_1.out⟩, ⟨by exact uR HO_5.out⟩, ⟨by exact uV HO_22.out⟩, ⟨by exact uV HO_1.out⟩, ⟨by exact uT HB.out⟩⟩
      clear H'
      obtain ⟨x5_2, x8_2, x31_2, rfl, rfl, HA, HK2, HO_1, HO_5, HO_22, HO_29, HB⟩ := hrel
      rcases gk with _ | k2
      · exact absurd HA.out (by simp [n_Mul.l1])
      have H := HA.out
      clear HA
      simp only [n_Mul.l1] at H
      by_cases c17 : x31_2 < (t110.length : Int)
      · rw [if_pos c17] at H
        have c17b0 : decide (x31_2 < (t110.length : Int)) = true := decide_eq_true c17
        clear c17
        by_cases c18 : 0 ≤ x31_2
        rotate_left
        · rw [if_neg c18] at H; exact absurd H (by simp)
        rw [if_pos c18] at H
        have c18b0 : decide (0 ≤ x31_2) = true := decide_eq_true c18
        clear c18
        by_cases c19 : x31_2 < (t110.length : Int)
        rotate_left
        · rw [if_neg c19] at H; exact absurd H (by simp)
        rw [if_pos c19] at H
        have c19b0 : decide (x31_2 < (t110.length : Int)) = true := decide_eq_true c19
        clear c19
        obtain ⟨ji20, hji20⟩ : ∃ j_ : Int, (wrap64 (x24_1 + x31_2)) = j_ := ⟨_, rfl⟩
        replace H : (if 0 ≤ (ji20) then (if (ji20) < (x5_2.length : Int) then (n_Mul.l1 k2 t110 (x5_2.set ((ji20) : Int).toNat ((IntKind.u64.wrap ((IntKind.u64.wrap ((IntKind.u64.wrap ((IntKind.u64.wrap ((rd t107 x24_1))) * (IntKind.u64.wrap (rd t110 x31_2)))) + (IntKind.u64.wrap (rd x5_2 (ji20))))) + x8_2)) % 4294967296)) x24_1 (rd t107 x24_1) ((IntKind.u64.wrap ((IntKind.u64.wrap ((IntKind.u64.wrap ((IntKind.u64.wrap ((rd t107 x24_1))) * (IntKind.u64.wrap (rd t110 x31_2)))) + (IntKind.u64.wrap (rd x5_2 (ji20))))) + x8_2)) / 4294967296) t107 (t107.length : Int) x24_1 t110 (t110.length : Int) (wrap64 (x31_2 + 1))) else (none)) else (none)) = some r := by first | (rw [hji20] at H; exact H) | (simp only [hji20] at H ⊢; exact H)
        have hji20w : (IntKind.i64.wrap (x24_1 + x31_2)) = ji20 := (i64_w _).trans hji20
        by_cases c21 : 0 ≤ (ji20)
        rotate_left
        · rw [if_neg c21] at H; exact absurd H (by simp)
        rw [if_pos c21] at H
        have c21b0 : decide (0 ≤ (ji20)) = true := decide_eq_true c21
        clear c21
        by_cases c22 : (ji20) < (x5_2.length : Int)
        rotate_left
        · rw [if_neg c22] at H; exact absurd H (by simp)
        rw [if_pos c22] at H
        have c22b0 : decide ((ji20) < (x5_2.length : Int)) = true := decide_eq_true c22
        clear c22
        obtain ⟨y122, hy122⟩ : ∃ y_ : List Int, y_ = (x5_2.set ((ji20) : Int).toNat ((IntKind.u64.wrap ((IntKind.u64.wrap ((IntKind.u64.wrap ((IntKind.u64.wrap ((rd t107 x24_1))) * (IntKind.u64.wrap (rd t110 x31_2)))) + (IntKind.u64.wrap (rd x5_2 (ji20))))) + x8_2)) % 4294967296)) := ⟨_, rfl⟩
        replace H : (n_Mul.l1 k2 t110 y122 x24_1 (rd t107 x24_1) ((IntKind.u64.wrap ((IntKind.u64.wrap ((IntKind.u64.wrap ((IntKind.u64.wrap ((rd t107 x24_1))) * (IntKind.u64.wrap (rd t110 x31_2)))) + (IntKind.u64.wrap (rd x5_2 (ji20))))) + x8_2)) / 4294967296) t107 (t107.length : Int) x24_1 t110 (t110.length : Int) (wrap64 (x31_2 + 1))) = some r := by first | (rw [hy122]; with_reducible exact H) | (have H2_ := bsm H; first | (rw [hy122]; with_reducible exact H2_) | with_reducible exact H2_) | with_reducible exact H | (rw [hy122]; exact H) | exact H
        have Ny122 := zMk hy122
        clear hy122
        have H' := zMk H
        clear H
        have p120 : 0 ≤ (x31_2 : Int) := of_decide_eq_true (by assumption)
        have q120 : x31_2 < (t110.length : Int) := of_decide_eq_true (by assumption)
        obtain ⟨ad120, e120, hx120_0⟩ := zAi (zVr HO_29.out).2.2 x31_2 p120 q120
        cases e120
        replace p120 := eq_true p120
        replace q120 := eq_true q120
        obtain ⟨Ao24, co24, eo24⟩ := zRs HO_5.out
        subst eo24
        have p121 : 0 ≤ ((ji20) : Int) := of_decide_eq_true (by assumption)
        have q121 : (ji20) < (x5_2.length : Int) := of_decide_eq_true (by assumption)
        obtain ⟨ad121, e121, hx121_0⟩ := zAi (zRr HO_5.out).2.2 (ji20) p121 q121
        cases e121
        replace p121 := eq_true p121
        replace q121 := eq_true q121
        have p23 : 0 ≤ ((ji20) : Int) := of_decide_eq_true (by assumption)
        have q23 : ((ji20) : Int) < ((x5_2.length : Int) : Int) := of_decide_eq_true (by assumption)
        obtain ⟨go23, co23, eo23, gb23, gl23, cl23, HG23⟩ := Kd.R_form HO_5.out (by omega)
        (first |  cases eo23|  (injection eo23 with ea_ en_ ec_; (first |  subst ea_|  (injection ea_ with ea_; subst ea_)); subst ec_; clear en_))
        have GB23 := zMk gb23
        have IGB23 := ownGe GB23.out
        have GG23 := zMk HG23
        clear gb23 gl23 HG23
        (first | simp only [add_plain] at hx121_0 | skip)
        obtain ⟨hx23_0, hf23_0⟩ := Kd.R_celln 0 HO_5.out ((ji20) : Int) p23 q23
        replace p23 := eq_true p23
        replace q23 := eq_true q23
        have HP25 := Kd.R_putg HO_5.out ((ji20) : Int) ((IntKind.u64.wrap ((IntKind.u64.wrap ((IntKind.u64.wrap ((IntKind.u64.wrap ((rd t107 x24_1))) * (IntKind.u64.wrap (rd t110 x31_2)))) + (IntKind.u64.wrap (rd x5_2 (ji20))))) + x8_2)) % 4294967296)
        go_wp2_with (first | ((with_reducible refine gate_store (t := 58) (p := 59) rfl ?_); refine store_event (t := 58) (p := 59) (v := ?vo_w26) (w1 := (wr.setCell ⟨go23, ((ji20) : Int).toNat, none⟩ (.int .u32 ((IntKind.u64.wrap ((IntKind.u64.wrap ((IntKind.u64.wrap ((IntKind.u64.wrap ((rd t107 x24_1))) * (IntKind.u64.wrap (rd t110 x31_2)))) + (IntKind.u64.wrap (rd x5_2 (ji20))))) + x8_2)) % 4294967296)))) ?hg ?ho ?hn ?hr ?_; (case ho => rfl); (case hg => rfl); (case hn => rfl); (case hr => first | (go_simp; done)|(go_simp; rfl)|(go_simp; rw [show ∀ x : Int, IntKind.u32.wrap (IntKind.u8.wrap x) = x % 256 from fun x => (by show (x % 256) % 4294967296 = x % 256; omega)])); intro w26 hw; have hg : wr.grownBy w26 (some go23) := (by rw [hw]; exact HP25.2); have hp_ : Kd.R (Kd.int .u32) 58 w26 w.heap.size (fun k_ => (w.heap.size ≤ k_)) (.slice (some ⟨go23, 0, none⟩) x5_2.length co24) y122 := (by rw [hw, Ny122.out]; exact HP25.1); clear HP25; replace HO_1 := zMk (Kd.V_afterv (v := (.slice (some ⟨go23, 0, none⟩) x5_2.length co24)) (v1 := (.slice (some ⟨go23, 0, none⟩) x5_2.length co24)) (ok := (fun k_ => ((P0_ k_ ∨ P1_ k_) ∨ w.heap.size ≤ k_))) (by exact uV HO_1.out) hg (.inl rfl)); replace HO_5 := zMk (hp_); replace HO_22 := zMk (Kd.V_afterv (v := (.slice (some ⟨go23, 0, none⟩) x5_2.length co24)) (v1 := (.slice (some ⟨go23, 0, none⟩) x5_2.length co24)) (ok := (fun k_ => ((P0_ k_ ∨ P1_ k_) ∨ w.heap.size ≤ k_))) (by exact uV HO_22.out) hg (.inl rfl)); replace HO_29 := zMk (Kd.V_afterv (v := (.slice (some ⟨go23, 0, none⟩) x5_2.length co24)) (v1 := (.slice (some ⟨go23, 0, none⟩) x5_2.length co24)) (ok := (fun k_ => ((P0_ k_ ∨ P1_ k_) ∨ w.heap.size ≤ k_))) (by exact uV HO_29.out) hg (.inl rfl)); replace HB := zMk ((by rw [hw]; exact below_set (HB.out) GB23.out : Below w.heap.size w w26)); clear hg hw hp_))
        go_roundg k2
        case measure => have := HK1.out; have := HK2.out; omega
        case rel => exact ⟨(y122), ((IntKind.u64.wrap ((IntKind.u64.wrap ((IntKind.u64.wrap ((IntKind.u64.wrap ((rd t107 x24_1))) * (IntKind.u64.wrap (rd t110 x31_2)))) + (IntKind.u64.wrap (rd x5_2 (ji20))))) + x8_2)) / 4294967296), (wrap64 (x31_2 + 1)), (by first | rfl | (simp; done) | (simp only [← hji20] <;> (first | rfl | simp)) | (simp [*]; done)), (by first | rfl | (simp; done) | (simp [*]; done)), H', ⟨by have := HK1.out; have := HK2.out; omega⟩, ⟨by exact uV HO_1.out⟩, ⟨by exact uR HO_5.out⟩, ⟨by exact uV HO_22.out⟩, ⟨by exact uV HO_29.out⟩, ⟨by exact uT HB.out⟩⟩
      · rw [if_neg c17] at H
        have c17b0 : decide (x31_2 < (t110.length : Int)) = false := decide_eq_false c17
        clear c17
        obtain ⟨ji27, hji27⟩ : ∃ j_ : Int, (wrap64 (x24_1 + (t110.length : Int))) = j_ := ⟨_, rfl⟩
        replace H : (if 0 ≤ (ji27) then (if (ji27) < (x5_2.length : Int) then (n_Mul.l0 k2 t110 (x5_2.set ((ji27) : Int).toNat ((x8_2) % 4294967296)) t107 (t107.length : Int) (wrap64 (x24_1 + 1))) else (none)) else (none)) = some r := by first | (rw [hji27] at H; exact H) | (simp only [hji27] at H ⊢; exact H)
        have hji27w : (IntKind.i64.wrap (x24_1 + (t110.length : Int))) = ji27 := (i64_w _).trans hji27
        by_cases c28 : 0 ≤ (ji27)
        rotate_left
        · rw [if_neg c28] at H; exact absurd H (by simp)
        rw [if_pos c28] at H
        have c28b0 : decide (0 ≤ (ji27)) = true := decide_eq_true c28
        clear c28
        by_cases c29 : (ji27) < (x5_2.length : Int)
        rotate_left
        · rw [if_neg c29] at H; exact absurd H (by simp)
        rw [if_pos c29] at H
        have c29b0 : decide ((ji27) < (x5_2.length : Int)) = true := decide_eq_true c29
        clear c29
        obtain ⟨y123, hy123⟩ : ∃ y_ : List Int, y_ = (x5_2.set ((ji27) : Int).toNat ((x8_2) % 4294967296)) := ⟨_, rfl⟩
        replace H : (n_Mul.l0 k2 t110 y123 t107 (t107.length : Int) (wrap64 (x24_1 + 1))) = some r := by first | (rw [hy123]; with_reducible exact H) | (have H2_ := bsm H; first | (rw [hy123]; with_reducible exact H2_) | with_reducible exact H2_) | with_reducible exact H | (rw [hy123]; exact H) | exact H
        have Ny123 := zMk hy123
        clear hy123
        have H' := zMk H
        clear H
        have p30 : 0 ≤ ((ji27) : Int) := of_decide_eq_true (by assumption)
        have q30 : ((ji27) : Int) < ((x5_2.length : Int) : Int) := of_decide_eq_true (by assumption)
        obtain ⟨go30, co30, eo30, gb30, gl30, cl30, HG30⟩ := Kd.R_form HO_5.out (by omega)
        (first |  cases eo30|  (injection eo30 with ea_ en_ ec_; (first |  subst ea_|  (injection ea_ with ea_; subst ea_)); subst ec_; clear en_))
        have GB30 := zMk gb30
        have IGB30 := ownGe GB30.out
        have GG30 := zMk HG30
        clear gb30 gl30 HG30
        obtain ⟨hx30_0, hf30_0⟩ := Kd.R_celln 0 HO_5.out ((ji27) : Int) p30 q30
        replace p30 := eq_true p30
        replace q30 := eq_true q30
        have HP31 := Kd.R_putg HO_5.out ((ji27) : Int) ((x8_2) % 4294967296)
        go_wp2_with (first | ((with_reducible refine gate_store (t := 58) (p := 68) rfl ?_); refine store_event (t := 58) (p := 68) (v := ?vo_w32) (w1 := (wr.setCell ⟨go30, ((ji27) : Int).toNat, none⟩ (.int .u32 ((x8_2) % 4294967296)))) ?hg ?ho ?hn ?hr ?_; (case ho => rfl); (case hg => rfl); (case hn => rfl); (case hr => first | (go_simp; done)|(go_simp; rfl)|(go_simp; rw [show ∀ x : Int, IntKind.u32.wrap (IntKind.u8.wrap x) = x % 256 from fun x => (by show (x % 256) % 4294967296 = x % 256; omega)])); intro w32 hw; have hg : wr.grownBy w32 (some go30) := (by rw [hw]; exact HP31.2); have hp_ : Kd.R (Kd.int .u32) 58 w32 w.heap.size (fun k_ => (w.heap.size ≤ k_)) (.slice (some ⟨go30, 0, none⟩) x5_2.length co30) y123 := (by rw [hw, Ny123.out]; exact HP31.1); clear HP31; replace HO_1 := zMk (Kd.V_afterv (v := (.slice (some ⟨go30, 0, none⟩) x5_2.length co30)) (v1 := (.slice (some ⟨go30, 0, none⟩) x5_2.length co30)) (ok := (fun k_ => ((P0_ k_ ∨ P1_ k_) ∨ w.heap.size ≤ k_))) (by exact uV HO_1.out) hg (.inl rfl)); replace HO_5 := zMk (hp_); replace HO_22 := zMk (Kd.V_afterv (v := (.slice (some ⟨go30, 0, none⟩) x5_2.length co30)) (v1 := (.slice (some ⟨go30, 0, none⟩) x5_2.length co30)) (ok := (fun k_ => ((P0_ k_ ∨ P1_ k_) ∨ w.heap.size ≤ k_))) (by exact uV HO_22.out) hg (.inl rfl)); replace HO_29 := zMk (Kd.V_afterv (v := (.slice (some ⟨go30, 0, none⟩) x5_2.length co30)) (v1 := (.slice (some ⟨go30, 0, none⟩) x5_2.length co30)) (ok := (fun k_ => ((P0_ k_ ∨ P1_ k_) ∨ w.heap.size ≤ k_))) (by exact uV HO_29.out) hg (.inl rfl)); replace HB := zMk ((by rw [hw]; exact below_set (HB.out) GB30.out : Below w.heap.size w w32)); clear hg hw hp_))
        go_roundg k2
        case measure => have := HK1.out; have := HK2.out; omega
        case rel => exact ⟨(y123), (wrap64 (x24_1 + 1)), (by first | rfl | (simp; done) | (simp [*]; done)), H', ⟨by have := HK1.out; have := HK2.out; omega⟩, ⟨by exact uV HO_1.out⟩, ⟨by exact uR HO_5.out⟩, ⟨by exact uV HO_22.out⟩, ⟨by exact uT HB.out⟩⟩
    · rw [if_neg c14] at H
      have c14b0 : decide (x24_1 < (t107.length : Int)) = false := decide_eq_false c14
      clear c14
      replace H := bnd H
      obtain ⟨t116, A330, H⟩ := H
      have A33 := zMk A330
      clear A330
      obtain rfl := zOi H
      obtain ⟨Ao34, co34, eo34⟩ := zRs HO_5.out
      subst eo34
      go_wp2_with (first | ((with_reducible refine gate_callee (f := 56) rfl ?_); refine goesL_ (some 71) rfl rfl Tryd.func56 (by kernel_rfl) rfl #[.slice Ao34 x5_1.length co34] rfl (by (try simp only [zMa, zMc, zMn]); first |  done|  rfl|  (simp only [zLd, zLt]; rfl)) ?_; (with_reducible refine (n_cut.calls (fun k_ => some k_ = (.slice Ao34 x5_1.length co34 : Value).ownBlock) _ _ x5_1 t116 _ ?side1 A33.out).mono ?_); (case side1 => exact Kd.R_V (Kd.R_tight rfl (HO_5.out))); rintro e w35 ⟨v117, rfl, ho0, hb⟩; refine ⟨_, rfl, ?_⟩; replace HO_1 := zMk (zVb (by exact uV HO_1.out) hb); replace HO_22 := zMk (zVb (by exact uV HO_22.out) hb); have HO118 := zMk (zVl (zVm (ok' := fun k_ => ((P0_ k_ ∨ P1_ k_) ∨ w.heap.size ≤ k_)) ho0 (fun k_ hk_ => Or.elim hk_ (fun hs_ => (.inr (((HO_5.out).1 k_ hs_.symm)))) (fun hn_ => (.inr (Nat.le_trans (zBs (by exact uT HB.out)) hn_))))) (zBs (by exact uT HB.out))); replace HO_5 := zMk (zRb (by exact uR HO_5.out) hb); replace HB := zMk (zBt (by exact uT HB.out) hb)))
      go_ret
      exact ⟨_, by first | rfl | (simp [errW_none, errW_some] <;> rfl) | (simp only [← hji5]; first | rfl | (simp [errW_none, errW_some] <;> rfl)) | (simp [*, errW_none, errW_some] <;> rfl), by exact uV HO118.out, by exact uT HB.out⟩
  · rw [if_neg c6] at H
    exact absurd H (by simp)


def r1_Same.l0 : Nat → List Int → List Int → Int → Option (Bool)
  | 0, _, _, _ => none
  | k + 1, x0, x1, x5 => if x5 < (x0.length : Int) then (if 0 ≤ x5 then (if x5 < (x1.length : Int) then (if (rd x0 x5) = (rd x1 x5) then (r1_Same.l0 k x0 x1 (wrap64 (x5 + 1))) else (some false)) else (none)) else (none)) else (some true)
def r1_Same.f (k : Nat) (l0 : List Int) (l1 : List Int) : Option (Bool) := if (l0.length : Int) = (l1.length : Int) then (r1_Same.l0 k l0 l1 0) else (some false)
theorem r1_Same.calls (k : Nat) (A0 : Option Addr) (c0 : Nat) (l0 : List Int) (A1 : Option Addr) (c1 : Nat) (l1 : List Int) (r : Bool) (w : World) (hr0 : Kd.C (Kd.int .u32) w A0 l0.length l0) (hc0 : l0.length ≤ c0) (hr1 : Kd.C (Kd.int .u32) w A1 l1.length l1) (hc1 : l1.length ≤ c1) (h : r1_Same.f k l0 l1 = some r) :
    Calls Tryd.prog 40 #[.slice A0 l0.length c0, .slice A1 l1.length c1] w fun e w' => e = .returned (.bool r) ∧ Drawn0 w w' := by
  have HR0 := zMk hr0
  have HC0 := zMk hc0
  clear hr0 hc0
  have HR1 := zMk hr1
  have HC1 := zMk hc1
  clear hr1 hc1
  have H : (if (l0.length : Int) = (l1.length : Int) then (r1_Same.l0 k l0 l1 0) else (some false)) = some r := h
  clear h
  by_cases c3 : (l0.length : Int) = (l1.length : Int)
  · rw [if_pos c3] at H
    have c3b0 : ((l0.length : Int) == (l1.length : Int)) = true := beq_iff_eq.mpr c3
    have c3b1 : ((l0.length : Int) != (l1.length : Int)) = false := bne_eq_false_iff_eq.mpr c3
    have c3b2 : (l0.length == l1.length) = true := by first | simpa using c3 | (simp at c3 ⊢; omega)
    clear c3
    have H' := zMk H
    clear H
    go_enter Tryd.func40, Tryd.ntmps40
    go_wp2
    repeat (go_quiet (fail); try go_wp2)
    go_loopg [5] k (fun kq v5 w' => ∃ (x5_1 : Int), v5 = .int .i64 x5_1 ∧ Aside0 (r1_Same.l0 kq l0 l1 x5_1 = some r) ∧ Aside0 (kq ≤ k) ∧ Drawn0 w w')
    case atStart => exact ⟨(0), (by first | rfl | (simp; done) | (simp [*]; done)), H', ⟨Nat.le_refl _⟩, by repeat (first | exact Drawn0.refl _ | apply Drawn0.step)⟩
    clear H'
    obtain ⟨x5_1, rfl, HA, HK1, ⟨m1, rfl⟩⟩ := hrel
    rcases gk with _ | k1
    · exact absurd HA.out (by simp [r1_Same.l0])
    have H := HA.out
    clear HA
    simp only [r1_Same.l0] at H
    by_cases c4 : x5_1 < (l0.length : Int)
    · rw [if_pos c4] at H
      have c4b0 : decide (x5_1 < (l0.length : Int)) = true := decide_eq_true c4
      clear c4
      by_cases c5 : 0 ≤ x5_1
      rotate_left
      · rw [if_neg c5] at H; exact absurd H (by simp)
      rw [if_pos c5] at H
      have c5b0 : decide (0 ≤ x5_1) = true := decide_eq_true c5
      clear c5
      by_cases c6 : x5_1 < (l1.length : Int)
      rotate_left
      · rw [if_neg c6] at H; exact absurd H (by simp)
      rw [if_pos c6] at H
      have c6b0 : decide (x5_1 < (l1.length : Int)) = true := decide_eq_true c6
      clear c6
      by_cases c7 : (rd l0 x5_1) = (rd l1 x5_1)
      · rw [if_pos c7] at H
        have c7b0 : ((rd l0 x5_1) == (rd l1 x5_1)) = true := beq_iff_eq.mpr c7
        have c7b1 : ((rd l0 x5_1) != (rd l1 x5_1)) = false := bne_eq_false_iff_eq.mpr c7
        clear c7
        have H' := zMk H
        clear H
        have p421 : 0 ≤ (x5_1 : Int) := of_decide_eq_true (by assumption)
        have q421 : x5_1 < (l0.length : Int) := of_decide_eq_true (by assumption)
        obtain ⟨ad421, e421, hx421_0⟩ := zAi HR0.out x5_1 p421 q421
        cases e421
        replace p421 := eq_true p421
        replace q421 := eq_true q421
        have p422 : 0 ≤ (x5_1 : Int) := of_decide_eq_true (by assumption)
        have q422 : x5_1 < (l1.length : Int) := of_decide_eq_true (by assumption)
        obtain ⟨ad422, e422, hx422_0⟩ := zAi HR1.out x5_1 p422 q422
        cases e422
        replace p422 := eq_true p422
        replace q422 := eq_true q422
        go_wp2
        repeat (go_quiet (fail); try go_wp2)
        go_roundg k1
        case measure => have := HK1.out; omega
        case rel => exact ⟨(wrap64 (x5_1 + 1)), (by first | rfl | (simp; done) | (simp [*]; done)), H', ⟨by have := HK1.out; omega⟩, by repeat (first | exact Drawn0.refl _ | apply Drawn0.step)⟩
      · rw [if_neg c7] at H
        have c7b0 : ((rd l0 x5_1) == (rd l1 x5_1)) = false := beq_eq_false_iff_ne.mpr c7
        have c7b1 : ((rd l0 x5_1) != (rd l1 x5_1)) = true := bne_iff_ne.mpr c7
        obtain rfl := zOi H
        have p421 : 0 ≤ (x5_1 : Int) := of_decide_eq_true (by assumption)
        have q421 : x5_1 < (l0.length : Int) := of_decide_eq_true (by assumption)
        obtain ⟨ad421, e421, hx421_0⟩ := zAi HR0.out x5_1 p421 q421
        cases e421
        replace p421 := eq_true p421
        replace q421 := eq_true q421
        have p422 : 0 ≤ (x5_1 : Int) := of_decide_eq_true (by assumption)
        have q422 : x5_1 < (l1.length : Int) := of_decide_eq_true (by assumption)
        obtain ⟨ad422, e422, hx422_0⟩ := zAi HR1.out x5_1 p422 q422
        cases e422
        replace p422 := eq_true p422
        replace q422 := eq_true q422
        go_wp2
        repeat (go_quiet (fail); try go_wp2)
        go_ret
        exact ⟨by first | rfl | (simp; done) | (simp [*]; done), by repeat (first | exact Drawn0.refl _ | apply Drawn0.step)⟩
    · rw [if_neg c4] at H
      have c4b0 : decide (x5_1 < (l0.length : Int)) = false := decide_eq_false c4
      clear c4
      obtain rfl := zOi H
      go_wp2
      repeat (go_quiet (fail); try go_wp2)
      go_ret
      exact ⟨by first | rfl | (simp; done) | (simp [*]; done), by repeat (first | exact Drawn0.refl _ | apply Drawn0.step)⟩
  · rw [if_neg c3] at H
    have c3b0 : ((l0.length : Int) == (l1.length : Int)) = false := beq_eq_false_iff_ne.mpr c3
    have c3b1 : ((l0.length : Int) != (l1.length : Int)) = true := bne_iff_ne.mpr c3
    have c3b2 : (l0.length == l1.length) = false := by first | simpa using c3 | (simp at c3 ⊢; omega)
    obtain rfl := zOi H
    go_enter Tryd.func40, Tryd.ntmps40
    go_wp2
    repeat (go_quiet (fail); try go_wp2)
    go_ret
    exact ⟨by first | rfl | (simp; done) | (simp [*]; done), by repeat (first | exact Drawn0.refl _ | apply Drawn0.step)⟩


def r1_Of.f (k : Nat) (a0 : Int) : Option (List Int) := (r1_Norm.f k (([(Go.bits .and .u64 a0 4294967295) % 4294967296, (a0 / 4294967296) % 4294967296] : List Int))).bind fun t728 => (some t728)
theorem r1_Of.calls (k : Nat) (a0 : Int) (r : List Int) (w : World) (h : r1_Of.f k a0 = some r) :
    Calls Tryd.prog 66 #[.int .u64 a0] w fun e w' => ∃ v0_ : Value, e = .returned (v0_) ∧ Kd.R (Kd.int .u32) 58 w' w.heap.size (fun _ => True) v0_ r ∧ Below w.heap.size w w' := by
  have HB := zMk (Below.refl w.heap.size w)
  have H : ((r1_Norm.f k (([(Go.bits .and .u64 a0 4294967295) % 4294967296, (a0 / 4294967296) % 4294967296] : List Int))).bind fun t728 => (some t728)) = some r := h
  clear h
  obtain ⟨y725, hy725⟩ : ∃ y_ : List Int, y_ = (([(Go.bits .and .u64 a0 4294967295) % 4294967296, (a0 / 4294967296) % 4294967296] : List Int)) := ⟨_, rfl⟩
  replace H : ((r1_Norm.f k y725).bind fun t728 => (some t728)) = some r := by first | (rw [hy725]; with_reducible exact H) | (have H2_ := bsm H; first | (rw [hy725]; with_reducible exact H2_) | with_reducible exact H2_) | with_reducible exact H | (rw [hy725]; exact H) | exact H
  have Ny725 := zMk hy725
  clear hy725
  replace H := bnd H
  obtain ⟨t728, A20, H⟩ := H
  have A2 := zMk A20
  clear A20
  obtain rfl := zOi H
  go_enter Tryd.func66, Tryd.ntmps66
  go_wp2_with (first | ((with_reducible refine gate_dst (N := 9) rfl ?_); refine Kd.R_lit (Kd.int .u32) _ 58 ?hg (N := 9) ?hd (xs := ([(Go.bits .and .u64 a0 4294967295) % 4294967296, (a0 / 4294967296) % 4294967296] : List Int)) (inner := [.int .u32 ((Go.bits .and .u64 a0 4294967295) % 4294967296), .int .u32 ((a0 / 4294967296) % 4294967296)]) (ok := fun _ => True) (okp := fun _ => True) ?hr ?hp (fun _ hk => hk) trivial (Below.refl _ _) (Nat.le_refl _) (by simp) ?_; (case hd => rfl); (case hg => rfl); (case hr => first | (go_simp; done)|(go_simp; rfl)|(go_simp; rw [show ∀ x : Int, IntKind.u32.wrap (IntKind.u8.wrap x) = x % 256 from fun x => (by show (x % 256) % 4294967296 = x % 256; omega)])); (case hp => exact (Reps.one (show Kd.M (Kd.int .u32) _ _ _ ((Go.bits .and .u64 a0 4294967295) % 4294967296) [.int .u32 ((Go.bits .and .u64 a0 4294967295) % 4294967296)] from rfl) (Reps.one (show Kd.M (Kd.int .u32) _ _ _ ((a0 / 4294967296) % 4294967296) [.int .u32 ((a0 / 4294967296) % 4294967296)] from rfl) (Reps.none _ _)))); intro v726 w3 ho4 hb hg_ hnew_; clear hg_ hnew_; (first |  rw [← Ny725.out] at ho4|  (simp only [Int.reduceToNat] at ho4; rw [← Ny725.out] at ho4)); have HO727 := zMk (zRl ho4 (zBs (by exact uT HB.out))); replace HB := zMk (zBt (by exact uT HB.out) hb); clear hb ho4; obtain ⟨Ao5, co5, eo5⟩ := zRs HO727.out; subst eo5)|((with_reducible refine gate_callee (f := 63) rfl ?_); refine goesL_ (some 10) rfl rfl Tryd.func63 (by kernel_rfl) rfl #[.slice Ao5 y725.length co5] rfl (by (try simp only [zMa, zMc, zMn]); first |  done|  rfl|  (simp only [zLd, zLt]; rfl)) ?_; (with_reducible refine (r1_Norm.calls k _ _ y725 t728 _ ?side1 ?side2 A2.out).mono ?_); (case side1 => exact uC (zRr HO727.out).2.2); (case side2 => exact (zRr HO727.out).2.1); rintro e w6 ⟨v729, rfl, ho0, hb⟩; refine ⟨_, rfl, ?_⟩; have HO730 := zMk (zRl (zRw ho0 (zRt (by exact uR HO727.out))) (zBs (by exact uT HB.out))); replace HO727 := zMk (zRe (by exact uR HO727.out) (zRz ho0) hb); replace HB := zMk (zBt (by exact uT HB.out) hb)))
  go_ret
  exact ⟨_, by first | rfl | (simp [errW_none, errW_some] <;> rfl) | (simp [*, errW_none, errW_some] <;> rfl), by (with_reducible repeat (first | apply zRa | apply zRn | apply zRd)); exact zRm HO730.out (fun _ hk => trivial), by exact uT HB.out⟩


def n_Of.f (a0 : Int) : Option (List Int) := (n_cut.f (([(a0) % 4294967296, (a0 / 4294967296) % 4294967296] : List Int))).bind fun t104 => (some t104)
theorem n_Of.calls (a0 : Int) (r : List Int) (w : World) (h : n_Of.f a0 = some r) :
    Calls Tryd.prog 34 #[.int .u64 a0] w fun e w' => ∃ v0_ : Value, e = .returned (v0_) ∧ Kd.V (Kd.int .u32) 58 w' w.heap.size (fun k_ => (w.heap.size ≤ k_)) v0_ r ∧ Below w.heap.size w w' := by
  have HB := zMk (Below.refl w.heap.size w)
  have H : ((n_cut.f (([(a0) % 4294967296, (a0 / 4294967296) % 4294967296] : List Int))).bind fun t104 => (some t104)) = some r := h
  clear h
  obtain ⟨y101, hy101⟩ : ∃ y_ : List Int, y_ = (([(a0) % 4294967296, (a0 / 4294967296) % 4294967296] : List Int)) := ⟨_, rfl⟩
  replace H : ((n_cut.f y101).bind fun t104 => (some t104)) = some r := by first | (rw [hy101]; with_reducible exact H) | (have H2_ := bsm H; first | (rw [hy101]; with_reducible exact H2_) | with_reducible exact H2_) | with_reducible exact H | (rw [hy101]; exact H) | exact H
  have Ny101 := zMk hy101
  clear hy101
  replace H := bnd H
  obtain ⟨t104, A20, H⟩ := H
  have A2 := zMk A20
  clear A20
  obtain rfl := zOi H
  go_enter Tryd.func34, Tryd.ntmps34
  go_wp2_with (first | ((with_reducible refine gate_dst (N := 8) rfl ?_); refine Kd.R_lit (Kd.int .u32) _ 58 ?hg (N := 8) ?hd (xs := ([(a0) % 4294967296, (a0 / 4294967296) % 4294967296] : List Int)) (inner := [.int .u32 ((a0) % 4294967296), .int .u32 ((a0 / 4294967296) % 4294967296)]) (ok := fun _ => True) (okp := fun _ => True) ?hr ?hp (fun _ hk => hk) trivial (Below.refl _ _) (Nat.le_refl _) (by simp) ?_; (case hd => rfl); (case hg => rfl); (case hr => first | (go_simp; done)|(go_simp; rfl)|(go_simp; rw [show ∀ x : Int, IntKind.u32.wrap (IntKind.u8.wrap x) = x % 256 from fun x => (by show (x % 256) % 4294967296 = x % 256; omega)])); (case hp => exact (Reps.one (show Kd.M (Kd.int .u32) _ _ _ ((a0) % 4294967296) [.int .u32 ((a0) % 4294967296)] from rfl) (Reps.one (show Kd.M (Kd.int .u32) _ _ _ ((a0 / 4294967296) % 4294967296) [.int .u32 ((a0 / 4294967296) % 4294967296)] from rfl) (Reps.none _ _)))); intro v102 w3 ho4 hb hg_ hnew_; clear hg_ hnew_; (first |  rw [← Ny101.out] at ho4|  (simp only [Int.reduceToNat] at ho4; rw [← Ny101.out] at ho4)); have HO103 := zMk (zRl (Kd.R_newM (M := fun k_ => (w.heap.size ≤ k_)) ho4 (zBs (by exact uT HB.out)) (fun k_ h_ => h_)) (zBs (by exact uT HB.out))); replace HB := zMk (zBt (by exact uT HB.out) hb); clear hb ho4; obtain ⟨Ao5, co5, eo5⟩ := zRs HO103.out; subst eo5)|((with_reducible refine gate_callee (f := 56) rfl ?_); refine goesL_ (some 9) rfl rfl Tryd.func56 (by kernel_rfl) rfl #[.slice Ao5 y101.length co5] rfl (by (try simp only [zMa, zMc, zMn]); first |  done|  rfl|  (simp only [zLd, zLt]; rfl)) ?_; (with_reducible refine (n_cut.calls (fun k_ => some k_ = (.slice Ao5 y101.length co5 : Value).ownBlock) _ _ y101 t104 _ ?side1 A2.out).mono ?_); (case side1 => exact Kd.R_V (Kd.R_tight rfl (HO103.out))); rintro e w6 ⟨v105, rfl, ho0, hb⟩; refine ⟨_, rfl, ?_⟩; have HO106 := zMk (zVl (zVm (ok' := fun k_ => (w.heap.size ≤ k_)) ho0 (fun k_ hk_ => Or.elim hk_ (fun hs_ => ((HO103.out).1 k_ hs_.symm).1) (fun hn_ => (Nat.le_trans (zBs (by exact uT HB.out)) hn_)))) (zBs (by exact uT HB.out))); replace HO103 := zMk (zRb (by exact uR HO103.out) hb); replace HB := zMk (zBt (by exact uT HB.out) hb)))
  go_ret
  exact ⟨_, by first | rfl | (simp [errW_none, errW_some] <;> rfl) | (simp [*, errW_none, errW_some] <;> rfl), by exact uV HO106.out, by exact uT HB.out⟩


def val : List Int → Int
  | [] => 0
  | x :: r => x + 4294967296 * val r
def Limbs (l : List Int) : Prop := ∀ x ∈ l, 0 ≤ x ∧ x < 4294967296
theorem w64 {n : Int} (h : -9223372036854775808 ≤ n) (h' : n ≤ 9223372036854775807) : wrap64 n = n := by unfold wrap64; omega
theorem limbs_of_wf {l : List Int} (h : ∀ x ∈ l, (Lit.int .u32 x).wf = true) : Limbs l := fun x hx => by
  have := Go.bounds_u32 (h x hx)
  omega
theorem Limbs.nil : Limbs [] := fun _ h => by cases h
theorem Limbs.cons {x : Int} {l : List Int} (h : Limbs (x :: l)) : (0 ≤ x ∧ x < 4294967296) ∧ Limbs l := ⟨h x (List.mem_cons_self ..), fun y hy => h y (List.mem_cons_of_mem _ hy)⟩
theorem Limbs.mk {x : Int} {l : List Int} (h0 : 0 ≤ x) (h1 : x < 4294967296) (h : Limbs l) : Limbs (x :: l) := fun y hy => by
  rcases List.mem_cons.1 hy with rfl | hy
  · exact ⟨h0, h1⟩
  · exact h y hy
theorem Limbs.take {l : List Int} (h : Limbs l) (n : Nat) : Limbs (l.take n) := fun x hx => h x (List.mem_of_mem_take hx)
theorem getD_lt (l : List Int) {n : Nat} (h : n < l.length) : l.getD n 0 = l[n] := by rw [List.getD_eq_getElem?_getD, List.getElem?_eq_getElem h, Option.getD_some]
theorem getD_ge (l : List Int) {n : Nat} (h : l.length ≤ n) : l.getD n 0 = 0 := by rw [List.getD_eq_getElem?_getD, List.getElem?_eq_none h, Option.getD_none]
theorem Limbs.getD {l : List Int} (h : Limbs l) (n : Nat) : 0 ≤ l.getD n 0 ∧ l.getD n 0 < 4294967296 := by
  by_cases hn : n < l.length
  · rw [getD_lt _ hn]; exact h _ (List.getElem_mem hn)
  · rw [getD_ge _ (by omega)]; omega
theorem val_append (a b : List Int) : val (a ++ b) = val a + 4294967296 ^ a.length * val b := by
  induction a with
  | nil => simp [val]
  | cons x a ih => simp only [List.cons_append, val, ih, zLc, Int.pow_succ]; rw [Int.mul_add, ← Int.mul_assoc, Int.mul_comm 4294967296 (4294967296 ^ a.length)]; omega
theorem val_nonneg {l : List Int} (h : Limbs l) : 0 ≤ val l := by
  induction l with
  | nil => simp [val]
  | cons x l ih => have := h.cons; have := ih this.2; simp only [val]; omega
theorem val_lt {l : List Int} (h : Limbs l) : val l < 4294967296 ^ l.length := by
  induction l with
  | nil => simp [val]
  | cons x l ih =>
    have h1 := h.cons
    have h2 := ih h1.2
    simp only [val, zLc, Int.pow_succ]
    omega

def Trim (l : List Int) : Prop := l = [] ∨ l.getD (l.length - 1) 0 ≠ 0
theorem Trim.tail {x : Int} {l : List Int} (h : Trim (x :: l)) : Trim l := by
  rcases l with _ | ⟨y, l⟩
  · exact .inl rfl
  · rcases h with h | h
    · cases h
    · exact .inr (by simpa using h)
theorem val_pos {l : List Int} (h : Limbs l) (ht : Trim l) (hn : l ≠ []) : 0 < val l := by
  induction l with
  | nil => exact absurd rfl hn
  | cons x l ih =>
    have h1 := h.cons
    rcases l with _ | ⟨y, l⟩
    · rcases ht with ht | ht
      · cases ht
      · simp [val] at ht ⊢; omega
    · have := ih h1.2 ht.tail (by simp)
      simp only [val] at this ⊢
      omega
theorem val_inj {a : List Int} : ∀ {b : List Int}, Limbs a → Trim a → Limbs b → Trim b → val a = val b → a = b := by
  induction a with
  | nil =>
    intro b _ _ hb tb h
    by_cases hn : b = []
    · exact hn.symm
    · have := val_pos hb tb hn
      simp only [val] at h
      omega
  | cons x a ih =>
    intro b ha ta hb tb h
    rcases b with _ | ⟨y, b⟩
    · have := val_pos ha ta (by simp)
      simp only [val] at h this
      omega
    · have h1 := ha.cons
      have h2 := hb.cons
      simp only [val] at h
      have h3 : x = y := by omega
      have h4 : val a = val b := by omega
      rw [h3, ih h1.2 ta.tail h2.2 tb.tail h4]

theorem cutLen_trim (l : List Int) : ∀ n, cutLen l n = 0 ∨ l.getD (cutLen l n - 1) 0 ≠ 0
  | 0 => .inl rfl
  | n + 1 => by
    simp only [cutLen]
    split
    · exact cutLen_trim l n
    · rename_i h
      exact .inr (by simpa using h)
theorem val_cutLen (l : List Int) : ∀ n, n ≤ l.length → val (l.take (cutLen l n)) = val (l.take n)
  | 0, _ => by simp [cutLen]
  | n + 1, h => by
    simp only [cutLen]
    split
    · rename_i h0
      rw [val_cutLen l n (by omega), List.take_succ_eq_append_getElem (by omega), val_append]
      rw [getD_lt _ (by omega)] at h0
      simp [val, h0]
    · rfl
def cut (l : List Int) : List Int := l.take (cutLen l l.length)
theorem cut_length (l : List Int) : (cut l).length ≤ l.length := by unfold cut; rw [zLt]; omega
theorem cut_len (l : List Int) : (cut l).length = cutLen l l.length := by have := cutLen_le l l.length; unfold cut; rw [zLt]; omega
theorem cut_limbs {l : List Int} (h : Limbs l) : Limbs (cut l) := h.take _
theorem cut_val (l : List Int) : val (cut l) = val l := by unfold cut; rw [val_cutLen l _ (Nat.le_refl _), List.take_length]
theorem cut_trim (l : List Int) : Trim (cut l) := by
  have h1 := cut_len l
  rcases cutLen_trim l l.length with h | h
  · exact .inl (List.eq_nil_of_length_eq_zero (by omega))
  · by_cases h0 : cutLen l l.length = 0
    · exact .inl (List.eq_nil_of_length_eq_zero (by omega))
    · refine .inr ?_
      rw [h1]
      unfold cut
      rw [List.getD_eq_getElem?_getD, List.getElem?_take, if_pos (by omega), ← List.getD_eq_getElem?_getD]
      exact h
theorem cut_f (l : List Int) : n_cut.f l = some (cut l) := rfl
theorem rd_nat (l : List Int) (n : Nat) : rd l (n : Int) = l.getD n 0 := by simp [rd]

theorem same_l0 (l : List Int) (hl : l.length < 4611686018427387904) : ∀ (m k : Nat), m ≤ l.length → l.length - m < k → r1_Same.l0 k l l (m : Int) = some true := by
  intro m k
  induction k generalizing m with
  | zero => intro _ h; omega
  | succ k ih =>
    intro hm hk
    simp only [r1_Same.l0]
    by_cases h : (m : Int) < (l.length : Int)
    · simp only [h, if_true, show (0 : Int) ≤ (m : Int) from by omega, w64 (n := (m : Int) + 1) (by omega) (by omega)]
      exact ih (m + 1) (by omega) (by omega)
    · rw [if_neg h]
theorem same_f (l : List Int) (hl : l.length < 4611686018427387904) (k : Nat) (hk : l.length < k) : r1_Same.f k l l = some true := by
  unfold r1_Same.f
  rw [if_pos rfl]
  exact same_l0 l hl 0 k (by omega) (by omega)
theorem norm_l0 (l : List Int) (hl : l.length < 35184372088832) : ∀ (n k : Nat), n ≤ l.length → n < k → r1_Norm.l0 k l (n : Int) = some (l.take (cutLen l n)) := by
  intro n k
  induction k generalizing n with
  | zero => intro _ h; omega
  | succ k ih =>
    intro hn hk
    simp only [r1_Norm.l0]
    rcases n with _ | n
    · rw [if_neg (by omega)]
      simp only [zOb]
      rw [if_pos (by omega), if_pos (by omega), if_pos (by simp)]
      simp [cutLen]
    · rw [if_pos (by omega), w64 (by omega) (by omega), show ((n + 1 : Nat) : Int) - 1 = (n : Int) from by omega, if_pos (by omega), if_pos (by omega), rd_nat]
      simp only [cutLen]
      by_cases h : l.getD n 0 = 0
      · rw [if_pos h, if_pos h]
        exact ih n (by omega) (by omega)
      · rw [if_neg h, if_neg h]
        simp only [zOb]
        rw [if_pos (by omega), if_pos (by omega), if_pos (by simp; omega)]
        simp
theorem norm_f (l : List Int) (hl : l.length < 35184372088832) (k : Nat) (hk : l.length < k) : r1_Norm.f k l = some (cut l) := norm_l0 l hl l.length k (Nat.le_refl _) hk
theorem clone_f (l : List Int) (hl : l.length < 35184372088832) : slices_Clone_uint32_uint32.f l = some l := if_pos hl
theorem nnorm_f (l : List Int) (hl : l.length < 35184372088832) : n_Norm.f l = some (cut l) := by
  unfold n_Norm.f
  rw [cut_f, zOb, clone_f _ (by have := cut_length l; omega)]
  rfl
def of2 (a : Int) : List Int := cut [a % 4294967296, a / 4294967296]
theorem of_f (a : Int) (h0 : 0 ≤ a) (h1 : a < 18446744073709551616) : n_Of.f a = some (of2 a) := by
  unfold n_Of.f
  rw [show (a / 4294967296) % 4294967296 = a / 4294967296 from by omega]
  rfl

theorem cmpI_step {a b x y P : Int} (ha : 0 ≤ a) (ha' : a < P) (hb : 0 ≤ b) (hb' : b < P) : cmpI (a + P * x) (b + P * y) = if x = y then cmpI a b else cmpI x y := by
  unfold cmpI
  rcases Int.lt_trichotomy x y with h | h | h
  · have h1 : P * x + P ≤ P * y := by have := Int.mul_le_mul_of_nonneg_left (show x + 1 ≤ y by omega) (show 0 ≤ P by omega); rw [Int.mul_add] at this; omega
    rw [if_pos (by omega), if_neg (by omega), if_pos h]
  · subst h
    rw [if_pos rfl]
    by_cases h2 : a < b
    · rw [if_pos (by omega), if_pos h2]
    · rw [if_neg (by omega), if_neg h2]
      by_cases h3 : a > b
      · rw [if_pos (by omega), if_pos h3]
      · rw [if_neg (by omega), if_neg h3]
  · have h1 : P * y + P ≤ P * x := by have := Int.mul_le_mul_of_nonneg_left (show y + 1 ≤ x by omega) (show 0 ≤ P by omega); rw [Int.mul_add] at this; omega
    rw [if_neg (by omega), if_pos (by omega), if_neg (by omega), if_neg (by omega), if_pos h]
theorem val_take_succ (l : List Int) (n : Nat) (h : n < l.length) : val (l.take (n + 1)) = val (l.take n) + 4294967296 ^ n * l.getD n 0 := by
  rw [List.take_succ_eq_append_getElem h, val_append, zLt, Nat.min_eq_left (by omega), getD_lt _ h]
  simp [val]
theorem cmpTop_val {a b : List Int} (ha : Limbs a) (hb : Limbs b) : ∀ n, n ≤ a.length → n ≤ b.length → cmpTop a b n = cmpI (val (a.take n)) (val (b.take n))
  | 0, _, _ => by simp [cmpTop, val, cmpI]
  | n + 1, h1, h2 => by
    have hla := val_lt (ha.take n)
    have hlb := val_lt (hb.take n)
    rw [zLt, Nat.min_eq_left (by omega)] at hla hlb
    rw [val_take_succ a n (by omega), val_take_succ b n (by omega), cmpI_step (val_nonneg (ha.take n)) hla (val_nonneg (hb.take n)) hlb, ← cmpTop_val ha hb n (by omega) (by omega)]
    simp only [cmpTop]
    (first | rfl | (unfold cmpI; split <;> split <;> simp_all) | skip)
theorem val_ge {l : List Int} (h : Limbs l) (ht : Trim l) (hn : l ≠ []) : (4294967296 : Int) ^ (l.length - 1) ≤ val l := by
  obtain ⟨n, hn'⟩ : ∃ n, l.length = n + 1 := ⟨l.length - 1, by have : l.length ≠ 0 := fun h0 => hn (List.eq_nil_of_length_eq_zero h0); omega⟩
  have h1 := val_take_succ l n (by omega)
  rw [← hn', List.take_length] at h1
  have h2 : l.getD n 0 ≠ 0 := by
    rcases ht with ht | ht
    · exact absurd ht hn
    · rw [hn'] at ht; exact ht
  have h3 := h.getD n
  have h4 := val_nonneg (h.take n)
  have h5 : (4294967296 : Int) ^ n * 1 ≤ 4294967296 ^ n * l.getD n 0 := Int.mul_le_mul_of_nonneg_left (by omega) (Int.le_of_lt (Int.pow_pos (by decide)))
  rw [h1, show l.length - 1 = n by omega]
  omega
theorem pow_up {m n : Nat} (h : m ≤ n) : (4294967296 : Int) ^ m ≤ 4294967296 ^ n := by
  obtain ⟨d, rfl⟩ := Nat.exists_eq_add_of_le h
  rw [Int.pow_add]
  have h1 : (0 : Int) < 4294967296 ^ d := Int.pow_pos (by decide)
  have h2 : (0 : Int) < 4294967296 ^ m := Int.pow_pos (by decide)
  have := Int.mul_le_mul_of_nonneg_left (show (1 : Int) ≤ 4294967296 ^ d by omega) (Int.le_of_lt h2)
  rw [Int.mul_one] at this
  exact this
theorem cmp_f (a b : List Int) (ha : Limbs a) (hb : Limbs b) : n_Cmp.f a b = some (cmpI (val a) (val b)) := by
  unfold n_Cmp.f
  rw [← cut_len a, ← cut_len b]
  congr 1
  have key : ∀ {a b : List Int}, Limbs a → Limbs b → (cut a).length < (cut b).length → val a < val b := by
    intro a b ha hb h
    have h1 := val_lt (cut_limbs ha)
    have h2 := val_ge (cut_limbs hb) (cut_trim b) (by intro h0; rw [h0] at h; exact absurd h (by simp))
    have h3 : (4294967296 : Int) ^ (cut a).length ≤ 4294967296 ^ ((cut b).length - 1) := pow_up (by omega)
    rw [cut_val] at h1 h2
    omega
  split
  · rename_i h
    rw [cmpTop_val ha hb _ (cut_length a) (by rw [h]; exact cut_length b)]
    rw [show a.take (cut a).length = cut a by rw [cut_len]; rfl, h, show b.take (cut b).length = cut b by rw [cut_len]; rfl, cut_val, cut_val]
  · rename_i h
    rcases Nat.lt_or_gt_of_ne h with h | h
    · have := key ha hb h
      unfold cmpI
      rw [if_pos (by omega), if_pos this]
    · have := key hb ha h
      unfold cmpI
      rw [if_neg (by omega), if_pos (by omega), if_neg (by omega), if_pos (by omega)]
theorem wraps_u32 (n : Int) (h₀ : 0 ≤ n) (h₁ : n < 2 ^ 32) : IntKind.u32.wrap n = n := by show n % 4294967296 = n; omega
theorem wraps_u64 (n : Int) (h₀ : 0 ≤ n) (h₁ : n < 2 ^ 64) : IntKind.u64.wrap n = n := by show n % 18446744073709551616 = n; omega
structure IsNum (l : List Int) (n : Int) : Prop where
  limbs : Limbs l
  trim : Trim l
  eq : val l = n
theorem IsNum.unique {a b : List Int} {n : Int} (ha : IsNum a n) (hb : IsNum b n) : a = b := val_inj ha.limbs ha.trim hb.limbs hb.trim (ha.eq.trans hb.eq.symm)
theorem IsNum.cut {l : List Int} (h : Limbs l) : IsNum (cut l) (val l) := ⟨cut_limbs h, cut_trim l, cut_val l⟩
theorem getD_set_ne (l : List Int) {m n : Nat} (v : Int) (h : m ≠ n) : (l.set m v).getD n 0 = l.getD n 0 := by rw [List.getD_eq_getElem?_getD, List.getElem?_set_ne h, ← List.getD_eq_getElem?_getD]
theorem getD_set_eq (l : List Int) {n : Nat} (v : Int) (h : n < l.length) : (l.set n v).getD n 0 = v := by rw [List.getD_eq_getElem?_getD, List.getElem?_set_self h]; rfl
theorem val_set (l : List Int) : ∀ (n : Nat) (v : Int), n < l.length → val (l.set n v) = val l + 4294967296 ^ n * (v - l.getD n 0) := by
  induction l with
  | nil => intro n v h; exact absurd h (by simp)
  | cons x l ih =>
    intro n v h
    rcases n with _ | n
    · simp only [zSb, val, List.getD_cons_zero, Int.pow_zero]; omega
    · have := ih n v (by simpa using h)
      simp only [zSc, val, List.getD_cons_succ, this, Int.pow_succ]
      grind
theorem Limbs.set {l : List Int} (h : Limbs l) (n : Nat) {v : Int} (h0 : 0 ≤ v) (h1 : v < 4294967296) : Limbs (l.set n v) := fun x hx => by
  rcases List.mem_or_eq_of_mem_set hx with hx | rfl
  · exact h x hx
  · exact ⟨h0, h1⟩
theorem getD_of_lt {l : List Int} : ∀ {m n : Nat}, Limbs l → val l < 4294967296 ^ n → n ≤ m → l.getD m 0 = 0 := by
  induction l with
  | nil => intro m n _ _ _; rfl
  | cons x l ih =>
    intro m n hl h hmn
    have h1 := hl.cons
    have h2 := val_nonneg h1.2
    simp only [val] at h
    rcases n with _ | n
    · rw [Int.pow_zero] at h
      have hx : x = 0 := by omega
      have hv : val l = 0 := by omega
      rcases m with _ | m
      · simpa using hx
      · rw [List.getD_cons_succ]
        exact ih (n := 0) h1.2 (by rw [hv]; decide) (by omega)
    · rcases m with _ | m
      · omega
      · rw [List.getD_cons_succ]
        refine ih (n := n) h1.2 ?_ (by omega)
        rw [Int.pow_succ] at h
        omega
theorem limbs_replicate (n : Nat) : Limbs (List.replicate n 0) := fun x hx => by rw [List.eq_of_mem_replicate hx]; omega
theorem val_replicate (n : Nat) : val (List.replicate n 0) = 0 := by
  induction n with
  | zero => rfl
  | succ n ih => simp only [List.replicate_succ, val, ih]; rfl

theorem mul_l1 (b : List Int) (hb : Limbs b) (x : Int) (hx : 0 ≤ x ∧ x < 4294967296) (i : Nat) (X : List Int) (n p : Int) (N : Nat) (hN : N < 70368744177665) (hi : i + b.length < N) (T : Int) :
    ∀ (j m k : Nat) (O : List Int) (c : Int), m + j = b.length → O.length = N → Limbs O → 0 ≤ c → c < 4294967296 → O.getD (i + b.length) 0 = 0 →
    val O + c * 4294967296 ^ (i + m) + x * (val b - val (b.take m)) * 4294967296 ^ i = T →
    ∃ O', O'.length = N ∧ Limbs O' ∧ val O' = T ∧ n_Mul.l1 (k + j + 1) b O (i : Int) x c X n p b (b.length : Int) (m : Int) = n_Mul.l0 k b O' X n (wrap64 (p + 1)) := by
  intro j
  induction j with
  | zero =>
    intro m k O c hm hO lO hc0 hc1 hz hT
    obtain rfl : m = b.length := by omega
    refine ⟨O.set (i + b.length) c, by rw [List.length_set]; exact hO, lO.set _ hc0 hc1, ?_, ?_⟩
    · rw [val_set _ _ _ (by omega), hz]
      rw [List.take_length] at hT
      grind
    · rw [n_Mul.l1, if_neg (by omega), w64 (by omega) (by omega), if_pos (by omega), if_pos (by omega), show c % 4294967296 = c from by omega]
      rfl
  | succ j ih =>
    intro m k O c hm hO lO hc0 hc1 hz hT
    have hbm := hb.getD m
    have hom := lO.getD (i + m)
    obtain ⟨s, hs⟩ : ∃ s, s = x * b.getD m 0 + O.getD (i + m) 0 + c := ⟨_, rfl⟩
    have hxb : 0 ≤ x * b.getD m 0 := Int.mul_nonneg hx.1 hbm.1
    have hxb2 : x * b.getD m 0 ≤ 4294967295 * 4294967295 := Int.mul_le_mul (by omega) (by omega) hbm.1 (by decide)
    have e1 : IntKind.u64.wrap ((IntKind.u64.wrap ((IntKind.u64.wrap ((IntKind.u64.wrap x) * (IntKind.u64.wrap (rd b (m : Int))))) + (IntKind.u64.wrap (rd O ((i + m : Nat) : Int))))) + c) = s := by
      rw [rd_nat, rd_nat, wraps_u64 x (by omega) (by omega), wraps_u64 (b.getD m 0) (by omega) (by omega), wraps_u64 (O.getD (i + m) 0) (by omega) (by omega), wraps_u64 (x * b.getD m 0) (by omega) (by omega), wraps_u64 (x * b.getD m 0 + O.getD (i + m) 0) (by omega) (by omega), wraps_u64 (x * b.getD m 0 + O.getD (i + m) 0 + c) (by omega) (by omega), hs]
    have hs0 : 0 ≤ s ∧ s < 18446744073709551616 := by omega
    obtain ⟨O', h1, h2, h3, h4⟩ := ih (m + 1) k (O.set (i + m) (s % 4294967296)) (s / 4294967296) (by omega) (by rw [List.length_set]; exact hO) (lO.set _ (by omega) (by omega)) (by omega) (by omega) (by rw [getD_set_ne _ _ (by omega)]; exact hz) (by
      rw [val_set _ _ _ (by omega), val_take_succ b m (by omega), ← hT, show i + (m + 1) = (i + m) + 1 by omega, Int.pow_succ, Int.pow_add]
      have := Int.emod_add_mul_ediv s 4294967296
      grind)
    refine ⟨O', h1, h2, h3, ?_⟩
    rw [show k + (j + 1) + 1 = (k + j + 1) + 1 by omega, n_Mul.l1, if_pos (by omega), if_pos (by omega), if_pos (by omega), w64 (n := (i : Int) + (m : Int)) (by omega) (by omega), if_pos (by omega), if_pos (by omega), w64 (n := (m : Int) + 1) (by omega) (by omega), show ((i : Int) + (m : Int)) = ((i + m : Nat) : Int) by omega, e1, zTn, show ((m : Int) + 1) = ((m + 1 : Nat) : Int) by omega]
    exact h4
theorem mul_l0 (a b : List Int) (ha : Limbs a) (hb : Limbs b) (N : Nat) (hN : N < 70368744177665) (hab : a.length + b.length = N) :
    ∀ (j m k : Nat) (O : List Int), m + j = a.length → O.length = N → Limbs O → val O = val (a.take m) * val b →
    ∃ r, n_Mul.l0 (k + (b.length + 2) * j + 1) b O a (a.length : Int) (m : Int) = some r ∧ IsNum r (val a * val b) ∧ r.length ≤ N := by
  intro j
  induction j with
  | zero =>
    intro m k O hm hO lO hv
    refine ⟨cut O, ?_, ?_, by have := cut_length O; omega⟩
    · rw [n_Mul.l0, if_neg (by omega)]
      rfl
    · have := IsNum.cut lO
      rw [hv, List.take_of_length_le (by omega)] at this
      exact this
  | succ j ih =>
    intro m k O hm hO lO hv
    have ham := ha.getD m
    have hlt : val O < 4294967296 ^ (m + b.length) := by
      rw [hv, Int.pow_add]
      have h1 := val_lt (ha.take m)
      have h2 := val_lt hb
      have h3 := val_nonneg (ha.take m)
      have h4 := val_nonneg hb
      rw [zLt, Nat.min_eq_left (by omega)] at h1
      exact Int.lt_of_le_of_lt (Int.mul_le_mul_of_nonneg_right (Int.le_of_lt h1) h4) (Int.mul_lt_mul_of_pos_left h2 (Int.pow_pos (by decide)))
    obtain ⟨O', h1, h2, h3, h4⟩ := mul_l1 b hb (a.getD m 0) ham m a (a.length : Int) (m : Int) N hN (by omega) (val (a.take (m + 1)) * val b) b.length 0 (k + (b.length + 2) * j + 1) O 0 (by omega) hO lO (by omega) (by omega) (getD_of_lt lO hlt (Nat.le_refl _)) (by
      rw [hv, val_take_succ a m (by omega)]
      simp only [List.take_zero, val]
      grind)
    obtain ⟨r, h5, h6, h7⟩ := ih (m + 1) k O' (by omega) h1 h2 h3
    refine ⟨r, ?_, h6, h7⟩
    rw [show k + (b.length + 2) * (j + 1) + 1 = ((k + (b.length + 2) * j + 1) + b.length + 1) + 1 by rw [Nat.mul_add]; omega, n_Mul.l0, if_pos (by omega), if_pos (by omega), if_pos (by omega), rd_nat]
    rw [show ((0 : Nat) : Int) = 0 from rfl] at h4
    rw [h4, w64 (by omega) (by omega)]
    exact h5
theorem mul_f (a b : List Int) (ha : Limbs a) (hb : Limbs b) (hN : a.length + b.length < 70368744177665) (k : Nat) (hk : (b.length + 2) * a.length + 1 ≤ k) :
    ∃ r, n_Mul.f k a b = some r ∧ IsNum r (val a * val b) ∧ r.length ≤ a.length + b.length := by
  have ca := cut_length a
  have cb := cut_length b
  have h0 : ((cut b).length + 2) * (cut a).length + 1 ≤ k := Nat.le_trans (Nat.succ_le_succ (Nat.mul_le_mul (by omega) ca)) hk
  obtain ⟨d, rfl⟩ : ∃ d, k = d + ((cut b).length + 2) * (cut a).length + 1 := ⟨k - (((cut b).length + 2) * (cut a).length + 1), by omega⟩
  obtain ⟨r, h1, h2, h3⟩ := mul_l0 (cut a) (cut b) (cut_limbs ha) (cut_limbs hb) ((cut a).length + (cut b).length) (by omega) rfl (cut a).length 0 d (List.replicate ((cut a).length + (cut b).length) 0) (by omega) (by simp) (limbs_replicate _) (by rw [val_replicate]; simp [val])
  refine ⟨r, ?_, by rw [cut_val, cut_val] at h2; exact h2, by omega⟩
  unfold n_Mul.f
  rw [cut_f, zOb, cut_f, zOb, w64 (by omega) (by omega), if_pos (by omega), show ((cut a).length : Int) + ((cut b).length : Int) = (((cut a).length + (cut b).length : Nat) : Int) by omega, zTn, if_pos (by omega)]
  exact h1
def bval : List Int → Int
  | [] => 0
  | x :: r => x + 2 * bval r
def Bits (l : List Int) : Prop := ∀ x ∈ l, x = 0 ∨ x = 1
theorem bval_append (a b : List Int) : bval (a ++ b) = bval a + 2 ^ a.length * bval b := by
  induction a with
  | nil => simp [bval]
  | cons x a ih => simp only [List.cons_append, bval, ih, zLc, Int.pow_succ]; rw [Int.mul_add, ← Int.mul_assoc, Int.mul_comm 2 (2 ^ a.length)]; omega
theorem Bits.tail {x : Int} {l : List Int} (h : Bits (x :: l)) : (x = 0 ∨ x = 1) ∧ Bits l := ⟨h x (List.mem_cons_self ..), fun y hy => h y (List.mem_cons_of_mem _ hy)⟩
theorem Bits.nil : Bits [] := fun _ h => by cases h
theorem Bits.append {a b : List Int} (ha : Bits a) (hb : Bits b) : Bits (a ++ b) := fun x hx => by
  rcases List.mem_append.1 hx with h | h
  · exact ha x h
  · exact hb x h
theorem Bits.one {x : Int} (h : x = 0 ∨ x = 1) : Bits [x] := fun y hy => by rw [List.mem_singleton] at hy; rw [hy]; exact h
theorem Bits.take {l : List Int} (h : Bits l) (n : Nat) : Bits (l.take n) := fun x hx => h x (List.mem_of_mem_take hx)
theorem Bits.getD {l : List Int} (h : Bits l) (n : Nat) : l.getD n 0 = 0 ∨ l.getD n 0 = 1 := by
  by_cases hn : n < l.length
  · rw [getD_lt _ hn]; exact h _ (List.getElem_mem hn)
  · rw [getD_ge _ (by omega)]; exact .inl rfl
theorem bval_bounds {l : List Int} (h : Bits l) : 0 ≤ bval l ∧ bval l < 2 ^ l.length := by
  induction l with
  | nil => simp [bval]
  | cons x l ih =>
    have h1 := h.tail
    have h2 := ih h1.2
    simp only [bval, zLc, Int.pow_succ]
    omega
theorem bval_take_succ (l : List Int) (n : Nat) : bval (l.take (n + 1)) = bval (l.take n) + 2 ^ n * l.getD n 0 := by
  by_cases h : n < l.length
  · rw [List.take_succ_eq_append_getElem h, bval_append, zLt, Nat.min_eq_left (by omega), getD_lt _ h]
    simp [bval]
  · rw [List.take_of_length_le (by omega), List.take_of_length_le (by omega), getD_ge _ (by omega)]
    simp
theorem bval_take_lt {l : List Int} (h : Bits l) (n : Nat) : 0 ≤ bval (l.take n) ∧ bval (l.take n) < 2 ^ n := by
  have h1 := bval_bounds (h.take n)
  refine ⟨h1.1, Int.lt_of_lt_of_le h1.2 ?_⟩
  have := Nat.pow_le_pow_right (show 0 < 2 by decide) (show (l.take n).length ≤ n by rw [zLt]; omega)
  exact_mod_cast this
def bitsW (x : Int) : Nat → List Int
  | 0 => []
  | n + 1 => bitsW x n ++ [x / 2 ^ n % 2]
theorem bitsW_zero (x : Int) : bitsW x 0 = [] := rfl
theorem bitsW_succ (x : Int) (n : Nat) : bitsW x (n + 1) = bitsW x n ++ [x / 2 ^ n % 2] := rfl
theorem bitsW_length (x : Int) (n : Nat) : (bitsW x n).length = n := by
  induction n with
  | zero => rfl
  | succ n ih => simp [bitsW, ih]
theorem bitsW_bits (x : Int) (n : Nat) : Bits (bitsW x n) := by
  induction n with
  | zero => exact Bits.nil
  | succ n ih => exact ih.append (Bits.one (by omega))
theorem bval_bitsW (x : Int) (n : Nat) (h : 0 ≤ x) : bval (bitsW x n) = x % 2 ^ n := by
  induction n with
  | zero => simp only [bitsW, bval, Int.pow_zero]; omega
  | succ n ih =>
    simp only [bitsW]
    rw [bval_append, ih, bitsW_length]
    simp only [bval]
    rw [Int.pow_succ, Int.emod_def x (2 ^ n * 2), ← Int.ediv_ediv_of_nonneg (Int.le_of_lt (Int.pow_pos (by decide)))]
    have h1 := Int.emod_def x (2 ^ n)
    have h2 := Int.emod_def (x / 2 ^ n) 2
    rw [h1, h2, Int.mul_add, Int.mul_sub, Int.mul_assoc]
    simp only [Int.mul_zero, Int.add_zero]
    omega
def bitsOf : List Int → List Int
  | [] => []
  | x :: r => bitsW x 32 ++ bitsOf r
theorem bitsOf_length (l : List Int) : (bitsOf l).length = 32 * l.length := by
  induction l with
  | nil => rfl
  | cons x l ih => simp [bitsOf, ih, bitsW_length]; omega
theorem bitsOf_bits (l : List Int) : Bits (bitsOf l) := by
  induction l with
  | nil => exact Bits.nil
  | cons x l ih => exact (bitsW_bits x 32).append ih
theorem bval_bitsOf {l : List Int} (h : Limbs l) : bval (bitsOf l) = val l := by
  induction l with
  | nil => rfl
  | cons x l ih =>
    have h1 := h.cons
    simp only [bitsOf, val]
    rw [bval_append, ih h1.2, bval_bitsW x 32 h1.1.1, bitsW_length]
    have : x % 2 ^ 32 = x := by omega
    rw [this]; omega
theorem u32_and1 (x : Int) (h₀ : 0 ≤ x) (h₁ : x < 4294967296) : Go.bits .and .u32 x 1 = x % 2 := bits_mask .u32 32 (by decide) wraps_u32 1 (by decide) x h₀ h₁
theorem u8_and1 (x : Int) (h₀ : 0 ≤ x) (h₁ : x < 256) : Go.bits .and .u8 x 1 = x % 2 := bits_mask .u8 8 (by decide) wraps_u8 1 (by decide) x h₀ h₁
theorem shr_u32 (x : Int) (i : Nat) (h : i ≤ 32) : shr .u32 x (IntKind.u64.wrap (i : Int)) = x / 2 ^ i := by
  rw [wraps_u64 _ (by omega) (by omega)]
  unfold shr
  rw [show min ((i : Int)).toNat (IntKind.bits .u32) = i from by rw [zTn]; exact Nat.min_eq_left h]
theorem bits_l1 (x0 : List Int) (hl : Limbs x0) (m : Nat) (hm : m < x0.length) (pre : List Int) (hp : pre.length + 32 < 140737488355328) (hm2 : x0.length < 4611686018427387904) : ∀ (j i k : Nat), i + j = 32 →
    r1_bits.l1 (k + j + 1) x0 (pre ++ bitsW (x0.getD m 0) i) (m : Int) (i : Int) = r1_bits.l0 k x0 (pre ++ bitsW (x0.getD m 0) 32) ((m + 1 : Nat) : Int) := by
  intro j
  induction j with
  | zero =>
    intro i k h
    obtain rfl : i = 32 := by omega
    rw [r1_bits.l1, if_neg (by omega), w64 (by omega) (by omega)]
    rfl
  | succ j ih =>
    intro i k h
    have hx := hl.getD m
    have hdiv : 0 ≤ x0.getD m 0 / 2 ^ i ∧ x0.getD m 0 / 2 ^ i < 4294967296 := by
      refine ⟨Int.ediv_nonneg hx.1 (Int.le_of_lt (Int.pow_pos (by decide))), ?_⟩
      have := Int.ediv_le_self (2 ^ i) hx.1
      omega
    rw [show k + (j + 1) + 1 = (k + j + 1) + 1 by omega, r1_bits.l1, if_pos (by omega), if_pos (by omega), if_pos (by omega), if_pos (by rw [wraps_u64 _ (by omega) (by omega)]; omega), if_pos (by rw [List.length_append, bitsW_length]; omega), rd_nat, shr_u32 _ i (by omega), u32_and1 _ hdiv.1 hdiv.2, w64 (by omega) (by omega), show x0.getD m 0 / 2 ^ i % 2 % 256 = x0.getD m 0 / 2 ^ i % 2 by omega]
    have := ih (i + 1) k (by omega)
    rw [show ((i + 1 : Nat) : Int) = (i : Int) + 1 by omega] at this
    rw [← this, bitsW_succ, List.append_assoc]
theorem bits_l0 (x0 : List Int) (hl : Limbs x0) (hm2 : x0.length < 4000000000000) : ∀ (j m k : Nat), m + j = x0.length →
    r1_bits.l0 (k + 34 * j + 1) x0 (bitsOf (x0.take m)) (m : Int) = some (bitsOf x0) := by
  intro j
  induction j with
  | zero =>
    intro m k h
    rw [r1_bits.l0, if_neg (by omega), List.take_of_length_le (by omega)]
  | succ j ih =>
    intro m k h
    rw [show k + 34 * (j + 1) + 1 = ((k + 34 * j + 1) + 32 + 1) + 1 by omega]
    rw [r1_bits.l0, if_pos (by omega)]
    have h1 := bits_l1 x0 hl m (by omega) (bitsOf (x0.take m)) (by rw [bitsOf_length, zLt]; omega) (by omega) 32 0 (k + 34 * j + 1) (by omega)
    rw [bitsW_zero, List.append_nil] at h1
    rw [show ((0 : Nat) : Int) = 0 from rfl] at h1
    rw [h1]
    have h2 : bitsOf (x0.take (m + 1)) = bitsOf (x0.take m) ++ bitsW (x0.getD m 0) 32 := by
      rw [List.take_succ_eq_append_getElem (by omega), getD_lt _ (by omega)]
      have : ∀ a b : List Int, bitsOf (a ++ b) = bitsOf a ++ bitsOf b := by
        intro a b
        induction a with
        | nil => rfl
        | cons x a ih => simp [bitsOf, ih]
      rw [this]
      simp [bitsOf]
    have h3 := ih (m + 1) k (by omega)
    rw [h2] at h3
    exact h3
theorem bits_f (l : List Int) (hl : Limbs l) (hm : l.length < 4000000000000) (k : Nat) (hk : 34 * l.length + 1 ≤ k) : r1_bits.f k l = some (bitsOf l) := by
  unfold r1_bits.f
  obtain ⟨d, rfl⟩ : ∃ d, k = d + 34 * l.length + 1 := ⟨k - (34 * l.length + 1), by omega⟩
  exact bits_l0 l hl hm l.length 0 d (by omega)
theorem at_f (l : List Int) (i : Nat) : r1_at.f l (i : Int) = some (l.getD i 0) := by
  unfold r1_at.f
  by_cases h : (i : Int) < (l.length : Int)
  · rw [if_pos h, if_pos (by omega), rd_nat]
  · rw [if_neg h, getD_ge _ (by omega)]
theorem rcmp_l0 (x y : List Int) (hx : Bits x) (hy : Bits y) : ∀ (n k : Nat), n < 4611686018427387904 → n < k → r1_Cmp.l0 k x y ((n : Int) - 1) = some (cmpI (bval (x.take n)) (bval (y.take n))) := by
  intro n
  induction n with
  | zero =>
    intro k _ hk
    obtain ⟨k, rfl⟩ : ∃ d, k = d + 1 := ⟨k - 1, by omega⟩
    simp only [r1_Cmp.l0]
    rw [if_neg (by omega)]
    simp [bval, cmpI]
  | succ n ih =>
    intro k hn hk
    obtain ⟨k, rfl⟩ : ∃ d, k = d + 1 := ⟨k - 1, by omega⟩
    simp only [r1_Cmp.l0]
    rw [if_pos (by omega), show ((n + 1 : Nat) : Int) - 1 = (n : Int) by omega]
    simp only [at_f, zOb]
    rw [w64 (by omega) (by omega), ih k (by omega) (by omega)]
    have h1 := bval_take_lt hx n
    have h2 := bval_take_lt hy n
    rw [bval_take_succ, bval_take_succ, cmpI_step h1.1 h1.2 h2.1 h2.2]
    by_cases h3 : x.getD n 0 < y.getD n 0
    · rw [if_pos h3, if_neg (by omega)]
      unfold cmpI
      rw [if_pos h3]
    · rw [if_neg h3]
      by_cases h4 : x.getD n 0 > y.getD n 0
      · rw [if_pos h4, if_neg (by omega)]
        unfold cmpI
        rw [if_neg h3, if_pos h4]
      · rw [if_neg h4, if_pos (by omega)]
theorem mx_nat (a b : Nat) : mx (a : Int) (b : Int) = ((max a b : Nat) : Int) := by unfold mx; split <;> omega
theorem rcmp_f (a b : List Int) (ha : Limbs a) (hb : Limbs b) (la : a.length < 4000000000000) (lb : b.length < 4000000000000) (k : Nat) (hk : 34 * a.length + 34 * b.length + 2 ≤ k) : r1_Cmp.f k a b = some (cmpI (val a) (val b)) := by
  unfold r1_Cmp.f
  rw [bits_f a ha la k (by omega), zOb, bits_f b hb lb k (by omega), zOb, mx_nat, bitsOf_length, bitsOf_length, w64 (by omega) (by omega), rcmp_l0 _ _ (bitsOf_bits a) (bitsOf_bits b) _ k (by omega) (by omega)]
  rw [List.take_of_length_le (by rw [bitsOf_length]; omega), List.take_of_length_le (by rw [bitsOf_length]; omega), bval_bitsOf ha, bval_bitsOf hb]
theorem bval_one (x : Int) : bval [x] = x := by simp [bval]
theorem shl_u32 (b : Int) (hb : b = 0 ∨ b = 1) (i : Nat) (h : i < 32) : shl .u32 (b % 4294967296) (i : Int) = b * 2 ^ i := by
  unfold shl
  rw [show min ((i : Int)).toNat (IntKind.bits .u32) = i from by rw [zTn]; exact Nat.min_eq_left (Nat.le_of_lt h)]
  have hp : (0 : Int) < 2 ^ i := Int.pow_pos (by decide)
  have hp2 : (2 : Int) ^ i ≤ 2 ^ 31 := by
    have := Nat.pow_le_pow_right (show 0 < 2 by decide) (show i ≤ 31 by omega)
    exact_mod_cast this
  rcases hb with rfl | rfl
  · simp; rfl
  · rw [show (1 : Int) % 4294967296 = 1 from rfl, Int.one_mul, wraps_u32 _ (by omega) (by omega)]
theorem or_low (x b : Int) (i : Nat) (hi : i < 32) (hx : 0 ≤ x) (hx2 : x < 2 ^ i) (hb : b = 0 ∨ b = 1) : Go.bits .or .u32 x (b * 2 ^ i) = x + b * 2 ^ i := by
  have hp : (0 : Int) < 2 ^ i := Int.pow_pos (by decide)
  have hp2 : (2 : Int) ^ i ≤ 2 ^ 31 := by
    have := Nat.pow_le_pow_right (show 0 < 2 by decide) (show i ≤ 31 by omega)
    exact_mod_cast this
  have hc : Go.bits .or .u32 x (b * 2 ^ i) = Go.bits .or .u32 (b * 2 ^ i) x := by
    obtain ⟨p, rfl⟩ := Int.eq_ofNat_of_zero_le hx
    obtain ⟨q, hq⟩ := Int.eq_ofNat_of_zero_le (show 0 ≤ b * 2 ^ i by rcases hb with rfl | rfl <;> omega)
    have hq2 : q < 2 ^ 32 := by rcases hb with rfl | rfl <;> omega
    have hp3 : p < 2 ^ 32 := by omega
    rw [hq, (bits_nat .u32 32 (by decide) wraps_u32 p q hp3 hq2).2, (bits_nat .u32 32 (by decide) wraps_u32 q p hq2 hp3).2, Nat.or_comm]
  rw [hc, bits_join .u32 32 (by decide) wraps_u32 i (b * 2 ^ i) x (by rcases hb with rfl | rfl <;> omega) (by rw [Int.mul_emod_left]) (by rcases hb with rfl | rfl <;> omega) hx hx2 (by omega)]
  omega
theorem pow_split (m : Nat) : (2 : Int) ^ m = 4294967296 ^ (m / 32) * 2 ^ (m % 32) := by
  rw [show (4294967296 : Int) = 2 ^ 32 from rfl, ← Int.pow_mul, ← Int.pow_add]
  congr 1
  omega
theorem limb_top (O : List Int) (lO : Limbs O) (m : Nat) (h : val O < 2 ^ m) : O.getD (m / 32) 0 < 2 ^ (m % 32) := by
  by_cases hm : m / 32 < O.length
  · have h1 : val O = val (O.take (m / 32)) + 4294967296 ^ (m / 32) * val (O.drop (m / 32)) := by
      have h0 := val_append (O.take (m / 32)) (O.drop (m / 32))
      rw [List.take_append_drop, zLt, Nat.min_eq_left (by omega)] at h0
      exact h0
    have h2 := val_nonneg (lO.take (m / 32))
    have h3 : O.drop (m / 32) = O.getD (m / 32) 0 :: O.drop (m / 32 + 1) := by rw [List.drop_eq_getElem_cons hm, getD_lt _ hm]
    have h4 : 0 ≤ val (O.drop (m / 32 + 1)) := val_nonneg (fun x hx => lO x (List.mem_of_mem_drop hx))
    rw [h3, val] at h1
    rw [h1, pow_split] at h
    have hp : (0 : Int) < 4294967296 ^ (m / 32) := Int.pow_pos (by decide)
    have h5 : (4294967296 : Int) ^ (m / 32) * O.getD (m / 32) 0 < 4294967296 ^ (m / 32) * 2 ^ (m % 32) := by
      have : 0 ≤ 4294967296 ^ (m / 32) * (4294967296 * val (O.drop (m / 32 + 1))) := Int.mul_nonneg (Int.le_of_lt hp) (by omega)
      rw [Int.mul_add] at h
      omega
    exact Int.lt_of_mul_lt_mul_left h5 (Int.le_of_lt hp)
  · rw [getD_ge _ (by omega)]
    exact Int.pow_pos (by decide)
theorem add_bit (x b P : Int) (hx : 0 ≤ x) (hx2 : x < P) (hb : b = 0 ∨ b = 1) (hP : P ≤ 2 ^ 31) (hp : 0 < P) : 0 ≤ x + b * P ∧ x + b * P < 4294967296 := by
  rcases hb with rfl | rfl
  · rw [Int.zero_mul]; omega
  · rw [Int.one_mul]; omega
theorem tdiv32 (m : Nat) (h : m < 4611686018427387904) : wrap64 (Int.tdiv (m : Int) 32) = ((m / 32 : Nat) : Int) := by
  have h0 : Int.tdiv (m : Int) 32 = ((m / 32 : Nat) : Int) := rfl
  rw [h0]
  exact w64 (by omega) (by omega)
theorem tmod32 (m : Nat) : IntKind.u64.wrap (Int.tmod (m : Int) 32) = ((m % 32 : Nat) : Int) := by
  have h0 : Int.tmod (m : Int) 32 = ((m % 32 : Nat) : Int) := rfl
  rw [h0]
  have h1 : m % 32 < 32 := Nat.mod_lt _ (by decide)
  generalize m % 32 = r at h1 ⊢
  show (r : Int) % 18446744073709551616 = r
  omega
theorem limbs_l0 (b : List Int) (hb : Bits b) (N : Nat) (hN : N < 35184372088832) (hbN : b.length ≤ 32 * N) :
    ∀ (j m k : Nat) (O : List Int), m + j = b.length → O.length = N → Limbs O → val O = bval (b.take m) →
    ∃ r, r1_limbs.l0 (k + N + 1 + j + 1) b O (m : Int) = some r ∧ IsNum r (bval b) ∧ r.length ≤ N := by
  intro j
  induction j with
  | zero =>
    intro m k O hm hO lO hv
    refine ⟨cut O, ?_, ?_, by have := cut_length O; omega⟩
    · rw [r1_limbs.l0, if_neg (by omega), norm_f O (by omega) _ (by omega)]
      rfl
    · have := IsNum.cut lO
      rw [hv, List.take_of_length_le (by omega)] at this
      exact this
  | succ j ih =>
    intro m k O hm hO lO hv
    have e1 := tdiv32 m (by omega)
    have e2 := tmod32 m
    have hlt : m / 32 < O.length := by omega
    have h31 : m % 32 ≤ 31 := by omega
    have hbm := hb.getD m
    have htop := limb_top O lO m (by rw [hv]; exact (bval_take_lt hb m).2)
    have hol := lO.getD (m / 32)
    have hmod : m % 32 < 32 := Nat.mod_lt _ (by decide)
    have hp : (0 : Int) < 2 ^ (m % 32) := Int.pow_pos (by decide)
    have hp2 : (2 : Int) ^ (m % 32) ≤ 2 ^ 31 := by
      have := Nat.pow_le_pow_right (show 0 < 2 by decide) h31
      exact_mod_cast this
    have hset := add_bit (O.getD (m / 32) 0) (b.getD m 0) (2 ^ (m % 32)) hol.1 htop hbm hp2 hp
    have hsh := shl_u32 (b.getD m 0) hbm (m % 32) hmod
    have hor := or_low (O.getD (m / 32) 0) (b.getD m 0) (m % 32) hmod hol.1 htop hbm
    have hps := pow_split m
    clear htop hp hp2
    generalize (2 : Int) ^ (m % 32) = Q at hset hsh hor hps
    have hv2 : val (O.set (m / 32) (O.getD (m / 32) 0 + b.getD m 0 * Q)) = bval (b.take (m + 1)) := by
      rw [val_set O (m / 32) _ hlt, hv, bval_take_succ, hps]
      have h9 : O.getD (m / 32) 0 + b.getD m 0 * Q - O.getD (m / 32) 0 = b.getD m 0 * Q := by rw [Int.add_comm (O.getD (m / 32) 0)]; exact Int.add_sub_cancel _ _
      rw [h9, Int.mul_assoc, Int.mul_comm Q]
    clear hps
    obtain ⟨r, h1, h2, h3⟩ := ih (m + 1) k (O.set (m / 32) (O.getD (m / 32) 0 + b.getD m 0 * Q)) (by omega) (by rw [List.length_set]; exact hO) (lO.set _ hset.1 hset.2) hv2
    refine ⟨r, ?_, h2, h3⟩
    rw [show k + N + 1 + (j + 1) + 1 = (k + N + 1 + j + 1) + 1 by omega, r1_limbs.l0, if_pos (by omega), e1, e2, if_pos (by omega), if_pos (by omega), if_pos (by omega), if_pos (by omega), rd_nat, rd_nat, hsh, hor, w64 (by omega) (by omega), zTn, show ((m : Int) + 1) = ((m + 1 : Nat) : Int) by omega]
    exact h1
theorem limbs_f (b : List Int) (hb : Bits b) (hl : b.length < 140737488355328) (k : Nat) (hk : 2 * b.length + 4 ≤ k) :
    ∃ r, r1_limbs.f k b = some r ∧ IsNum r (bval b) ∧ 32 * r.length ≤ b.length + 31 := by
  obtain ⟨N, hN⟩ : ∃ N, N = (b.length + 31) / 32 := ⟨_, rfl⟩
  have e1 : wrap64 (Int.tdiv (wrap64 ((b.length : Int) + 31)) 32) = (N : Int) := by
    rw [w64 (n := (b.length : Int) + 31) (by omega) (by omega), show (b.length : Int) + 31 = ((b.length + 31 : Nat) : Int) by omega, show Int.tdiv ((b.length + 31 : Nat) : Int) 32 = (((b.length + 31) / 32 : Nat) : Int) from rfl, ← hN, w64 (by omega) (by omega)]
  obtain ⟨d, rfl⟩ : ∃ d, k = d + N + 1 + b.length + 1 := ⟨k - (N + 1 + b.length + 1), by omega⟩
  obtain ⟨r, h1, h2, h3⟩ := limbs_l0 b hb N (by omega) (by omega) b.length 0 d (List.replicate N 0) (by omega) (by simp) (limbs_replicate _) (by rw [val_replicate]; rfl)
  refine ⟨r, ?_, h2, by omega⟩
  unfold r1_limbs.f
  rw [e1, if_pos (by omega), zTn, if_pos (by omega)]
  exact h1
theorem sum_l0 (x y : List Int) (hx : Bits x) (hy : Bits y) (M : Nat) (hM : M = max x.length y.length) (hM2 : M < 140737488355000) :
    ∀ (j m k : Nat) (O : List Int) (c : Int), m + j = M + 1 → O.length = m → Bits O → (c = 0 ∨ c = 1) → bval O + 2 ^ m * c = bval (x.take m) + bval (y.take m) →
    ∃ r, r1_sum.l0 (k + j + 1) x y O c (m : Int) = some r ∧ Bits r ∧ r.length = M + 1 ∧ bval r = bval x + bval y := by
  intro j
  induction j with
  | zero =>
    intro m k O c hm hO hB hc hv
    refine ⟨O, ?_, hB, by omega, ?_⟩
    · rw [r1_sum.l0, mx_nat, if_neg (by omega)]
    · rw [List.take_of_length_le (by omega), List.take_of_length_le (by omega)] at hv
      have h1 := bval_bounds hx
      have h2 := bval_bounds hy
      have hpow : ∀ {a b : Nat}, a ≤ b → (2 : Int) ^ a ≤ 2 ^ b := fun h => by
        have := Nat.pow_le_pow_right (show 0 < 2 by decide) h
        exact_mod_cast this
      have h3 := hpow (show x.length ≤ M by omega)
      have h4 := hpow (show y.length ≤ M by omega)
      have h5 : (2 : Int) ^ m = 2 ^ M * 2 := by rw [show m = M + 1 by omega, Int.pow_succ]
      have h6 := bval_bounds hB
      rcases hc with rfl | rfl
      · omega
      · omega
  | succ j ih =>
    intro m k O c hm hO hB hc hv
    have hxm := hx.getD m
    have hym := hy.getD m
    obtain ⟨s, hs⟩ : ∃ s, s = x.getD m 0 + y.getD m 0 + c := ⟨_, rfl⟩
    have hs0 : 0 ≤ s ∧ s ≤ 3 := by omega
    obtain ⟨r, h1, h2, h3, h4⟩ := ih (m + 1) k (O ++ [s % 2]) (s / 2) (by omega) (by simp [hO]) (hB.append (Bits.one (by omega))) (by omega) (by
      rw [bval_append, bval_one, bval_take_succ, bval_take_succ, hO, Int.pow_succ]
      have := Int.emod_add_mul_ediv s 2
      grind)
    refine ⟨r, ?_, h2, h3, h4⟩
    rw [show k + (j + 1) + 1 = (k + j + 1) + 1 by omega, r1_sum.l0, mx_nat, if_pos (by omega), at_f, zOb, at_f, zOb, if_pos (by omega), w64 (by omega) (by omega)]
    rw [show ((x.getD m 0 + y.getD m 0) % 256 + c) % 256 = s by omega, u8_and1 s (by omega) (by omega), show ((m : Int) + 1) = ((m + 1 : Nat) : Int) by omega]
    exact h1
theorem sum_f (x y : List Int) (hx : Bits x) (hy : Bits y) (hM : max x.length y.length < 140737488355000) (k : Nat) (hk : max x.length y.length + 2 ≤ k) :
    ∃ r, r1_sum.f k x y = some r ∧ Bits r ∧ r.length = max x.length y.length + 1 ∧ bval r = bval x + bval y := by
  obtain ⟨d, rfl⟩ : ∃ d, k = d + (max x.length y.length + 1) + 1 := ⟨k - (max x.length y.length + 2), by omega⟩
  obtain ⟨r, h1, h2, h3, h4⟩ := sum_l0 x y hx hy _ rfl hM (max x.length y.length + 1) 0 d [] 0 (by omega) rfl Bits.nil (.inl rfl) (by simp [bval])
  exact ⟨r, h1, h2, h3, h4⟩

def r1_Mul.l0 : Nat → List Int → List Int → List Int → List Int → Int → Option (List Int)
  | 0, _, _, _, _, _ => none
  | k + 1, x5, x6, x7, x8, x9 => if x9 < (x6.length : Int) then (if 0 ≤ x9 then (if (rd x6 x9) = 1 then ((some (([] : List Int) : List Int)).bind fun y978 => (if y978.length + x8.length < 140737488355328 then ((some (y978 ++ x8 : List Int)).bind fun y981 => (if y981.length + x5.length < 140737488355328 then ((r1_sum.f k x7 (y981 ++ x5)).bind fun t987 => (if x8.length < 140737488355328 then (r1_Mul.l0 k x5 x6 t987 (x8 ++ [0]) (wrap64 (x9 + 1))) else (none))) else (none))) else (none))) else (if x8.length < 140737488355328 then (r1_Mul.l0 k x5 x6 x7 (x8 ++ [0]) (wrap64 (x9 + 1))) else (none))) else (none)) else ((r1_limbs.f k x7).bind fun t996 => (some t996))
def r1_Mul.f (k : Nat) (l0 : List Int) (l1 : List Int) : Option (List Int) := (r1_Norm.f k l0).bind fun t965 => ((r1_bits.f k t965).bind fun t968 => ((r1_Norm.f k l1).bind fun t971 => ((r1_bits.f k t971).bind fun t974 => (r1_Mul.l0 k t968 t974 ([] : List Int) ([] : List Int) 0))))
theorem r1_Mul.calls (k : Nat) (A0 : Option Addr) (c0 : Nat) (l0 : List Int) (A1 : Option Addr) (c1 : Nat) (l1 : List Int) (r : List Int) (w : World) (hr0 : Kd.C (Kd.int .u32) w A0 l0.length l0) (hc0 : l0.length ≤ c0) (hr1 : Kd.C (Kd.int .u32) w A1 l1.length l1) (hc1 : l1.length ≤ c1) (h : r1_Mul.f k l0 l1 = some r) :
    Calls Tryd.prog 46 #[.slice A0 l0.length c0, .slice A1 l1.length c1] w fun e w' => ∃ v0_ : Value, e = .returned (v0_) ∧ Kd.R (Kd.int .u32) 58 w' w.heap.size (fun _ => True) v0_ r ∧ Below w.heap.size w w' := by
  have HR0 := zMk hr0
  have HC0 := zMk hc0
  clear hr0 hc0
  have HR1 := zMk hr1
  have HC1 := zMk hc1
  clear hr1 hc1
  have HB := zMk (Below.refl w.heap.size w)
  have H : ((r1_Norm.f k l0).bind fun t965 => ((r1_bits.f k t965).bind fun t968 => ((r1_Norm.f k l1).bind fun t971 => ((r1_bits.f k t971).bind fun t974 => (r1_Mul.l0 k t968 t974 ([] : List Int) ([] : List Int) 0))))) = some r := h
  clear h
  replace H := bnd H
  obtain ⟨t965, A30, H⟩ := H
  have A3 := zMk A30
  clear A30
  replace H := bnd H
  obtain ⟨t968, A40, H⟩ := H
  have A4 := zMk A40
  clear A40
  replace H := bnd H
  obtain ⟨t971, A50, H⟩ := H
  have A5 := zMk A50
  clear A50
  replace H := bnd H
  obtain ⟨t974, A60, H⟩ := H
  have A6 := zMk A60
  clear A60
  have H' := zMk H
  clear H
  go_enter Tryd.func46, Tryd.ntmps46
  go_wp2_with (first | ((with_reducible refine gate_callee (f := 63) rfl ?_); refine goesL_ (some 11) rfl rfl Tryd.func63 (by kernel_rfl) rfl #[.slice A0 l0.length c0] rfl (by (try simp only [zMa, zMc, zMn]); first |  done|  rfl|  (simp only [zLd, zLt]; rfl)) ?_; (with_reducible refine (r1_Norm.calls k _ _ l0 t965 _ ?side1 ?side2 A3.out).mono ?_); (case side1 => repeat (first |  exact HR0.out|  (with_reducible refine zCa ?_ _)|(with_reducible refine zCn ?_ _)|(with_reducible refine zCd ?_))); (case side2 => exact HC0.out); rintro e w7 ⟨v966, rfl, ho0, hb⟩; refine ⟨_, rfl, ?_⟩; have HO967 := zMk (zRl ho0 (zBs (by exact uT HB.out))); replace HB := zMk (zBt (by exact uT HB.out) hb); obtain ⟨Ao8, co8, eo8⟩ := zRs HO967.out; subst eo8)|((with_reducible refine gate_callee (f := 64) rfl ?_); refine goesL_ (some 12) rfl rfl Tryd.func64 (by kernel_rfl) rfl #[.slice Ao8 t965.length co8] rfl (by (try simp only [zMa, zMc, zMn]); first |  done|  rfl|  (simp only [zLd, zLt]; rfl)) ?_; (with_reducible refine (r1_bits.calls k _ _ t965 t968 _ ?side1 ?side2 A4.out).mono ?_); (case side1 => exact uC (zRr HO967.out).2.2); (case side2 => exact (zRr HO967.out).2.1); rintro e w9 ⟨v969, rfl, ho0, hb⟩; refine ⟨_, rfl, ?_⟩; replace HO967 := zMk (zRb (by exact uR HO967.out) hb); have HO970 := zMk (zRl ho0 (zBs (by exact uT HB.out))); replace HB := zMk (zBt (by exact uT HB.out) hb))|((with_reducible refine gate_callee (f := 63) rfl ?_); refine goesL_ (some 14) rfl rfl Tryd.func63 (by kernel_rfl) rfl #[.slice A1 l1.length c1] rfl (by (try simp only [zMa, zMc, zMn]); first |  done|  rfl|  (simp only [zLd, zLt]; rfl)) ?_; (with_reducible refine (r1_Norm.calls k _ _ l1 t971 _ ?side1 ?side2 A5.out).mono ?_); (case side1 => repeat (first |  exact (Kd.C_below HR1.out HB.out)|(with_reducible refine zCa ?_ _)|(with_reducible refine zCn ?_ _)|(with_reducible refine zCd ?_))); (case side2 => exact HC1.out); rintro e w10 ⟨v972, rfl, ho0, hb⟩; refine ⟨_, rfl, ?_⟩; replace HO970 := zMk (zRb (by exact uR HO970.out) hb); have HO973 := zMk (zRl (zRw ho0 (zRt (by exact uR HO967.out))) (zBs (by exact uT HB.out))); replace HO967 := zMk (zRe (by exact uR HO967.out) (zRz ho0) hb); replace HB := zMk (zBt (by exact uT HB.out) hb); obtain ⟨Ao11, co11, eo11⟩ := zRs HO973.out; subst eo11)|((with_reducible refine gate_callee (f := 64) rfl ?_); refine goesL_ (some 15) rfl rfl Tryd.func64 (by kernel_rfl) rfl #[.slice Ao11 t971.length co11] rfl (by (try simp only [zMa, zMc, zMn]); first |  done|  rfl|  (simp only [zLd, zLt]; rfl)) ?_; (with_reducible refine (r1_bits.calls k _ _ t971 t974 _ ?side1 ?side2 A6.out).mono ?_); (case side1 => exact uC (zRr HO973.out).2.2); (case side2 => exact (zRr HO973.out).2.1); rintro e w12 ⟨v975, rfl, ho0, hb⟩; refine ⟨_, rfl, ?_⟩; replace HO967 := zMk (zRb (by exact uR HO967.out) hb); replace HO973 := zMk (zRb (by exact uR HO973.out) hb); have HO976 := zMk (zRl (zRw ho0 (zRt (by exact uR HO970.out))) (zBs (by exact uT HB.out))); replace HO970 := zMk (zRe (by exact uR HO970.out) (zRz ho0) hb); replace HB := zMk (zBt (by exact uT HB.out) hb)))
  go_loopg [7, 8, 9] k (fun kq v7 v8 v9 w' => ∃ (x7_1 : List Int) (x8_1 : List Int) (x9_1 : Int), v9 = .int .i64 x9_1 ∧ Aside0 (r1_Mul.l0 kq t968 t974 x7_1 x8_1 x9_1 = some r) ∧ Aside0 (kq ≤ k) ∧ Aside0 (Kd.R (Kd.int .u8) 5 w' w.heap.size (fun k_ => some k_ ≠ (v975 : Value).ownBlock ∧ some k_ ≠ (v7 : Value).ownBlock ∧ some k_ ≠ (v8 : Value).ownBlock) v969 t968) ∧ Aside0 (Kd.R (Kd.int .u8) 5 w' w.heap.size (fun k_ => some k_ ≠ (v969 : Value).ownBlock ∧ some k_ ≠ (v7 : Value).ownBlock ∧ some k_ ≠ (v8 : Value).ownBlock) v975 t974) ∧ Aside0 (Kd.R (Kd.int .u8) 5 w' w.heap.size (fun k_ => some k_ ≠ (v969 : Value).ownBlock ∧ some k_ ≠ (v975 : Value).ownBlock ∧ some k_ ≠ (v8 : Value).ownBlock) v7 x7_1) ∧ Aside0 (Kd.R (Kd.int .u8) 5 w' w.heap.size (fun k_ => some k_ ≠ (v969 : Value).ownBlock ∧ some k_ ≠ (v975 : Value).ownBlock ∧ some k_ ≠ (v7 : Value).ownBlock) v8 x8_1) ∧ Aside0 (Below w.heap.size w w'))
  case atStart => exact ⟨(([] : List Int)), (([] : List Int)), (0), (by first | rfl | (simp; done) | (simp [*]; done)), H', ⟨Nat.le_refl _⟩, ⟨by (with_reducible repeat (first | apply zRa | apply zRn | apply zRd)); exact zRm HO970.out (fun _ hk => ⟨hk.2, ⟨(by simp [Value.ownBlock]), (by simp [Value.ownBlock])⟩⟩)⟩, ⟨by (with_reducible repeat (first | apply zRa | apply zRn | apply zRd)); exact zRm HO976.out (fun _ hk => ⟨hk.2, ⟨(by simp [Value.ownBlock]), (by simp [Value.ownBlock])⟩⟩)⟩, ⟨by first | exact Kd.R_nil _ _ _ _ _ | exact Kd.N_nil _ _ _ _ _ | exact Kd.V_nil _ _ _ _ _ | exact Kd.Q_nil _ _ _ _ _ | exact Kd.S_nil _ _ _ _ _⟩, ⟨by first | exact Kd.R_nil _ _ _ _ _ | exact Kd.N_nil _ _ _ _ _ | exact Kd.V_nil _ _ _ _ _ | exact Kd.Q_nil _ _ _ _ _ | exact Kd.S_nil _ _ _ _ _⟩, ⟨by exact uT HB.out⟩⟩
  clear H'
  obtain ⟨x7_1, x8_1, x9_1, rfl, HA, HK1, HO_5, HO_6, HO_7, HO_8, HB⟩ := hrel
  rcases gk with _ | k1
  · exact absurd HA.out (by simp [r1_Mul.l0])
  have H := HA.out
  clear HA
  simp only [r1_Mul.l0] at H
  by_cases c13 : x9_1 < (t974.length : Int)
  · rw [if_pos c13] at H
    have c13b0 : decide (x9_1 < (t974.length : Int)) = true := decide_eq_true c13
    clear c13
    by_cases c14 : 0 ≤ x9_1
    rotate_left
    · rw [if_neg c14] at H; exact absurd H (by simp)
    rw [if_pos c14] at H
    have c14b0 : decide (0 ≤ x9_1) = true := decide_eq_true c14
    clear c14
    by_cases c15 : (rd t974 x9_1) = 1
    · rw [if_pos c15] at H
      have c15b0 : ((rd t974 x9_1) == 1) = true := beq_iff_eq.mpr c15
      have c15b1 : ((rd t974 x9_1) != 1) = false := bne_eq_false_iff_eq.mpr c15
      clear c15
      obtain ⟨y978, hy978⟩ : ∃ y_ : List Int, y_ = (([] : List Int)) := ⟨_, rfl⟩
      replace H : (if y978.length + x8_1.length < 140737488355328 then ((some (y978 ++ x8_1 : List Int)).bind fun y981 => (if y981.length + t968.length < 140737488355328 then ((r1_sum.f k1 x7_1 (y981 ++ t968)).bind fun t987 => (if x8_1.length < 140737488355328 then (r1_Mul.l0 k1 t968 t974 t987 (x8_1 ++ [0]) (wrap64 (x9_1 + 1))) else (none))) else (none))) else (none)) = some r := by first | (rw [hy978]; with_reducible exact H) | (have H2_ := bsm H; first | (rw [hy978]; with_reducible exact H2_) | with_reducible exact H2_) | with_reducible exact H | (rw [hy978]; exact H) | exact H
      have Ny978 := zMk hy978
      clear hy978
      by_cases c16 : y978.length + x8_1.length < 140737488355328
      rotate_left
      · rw [if_neg c16] at H; exact absurd H (by simp)
      rw [if_pos c16] at H
      have LMc16 := zMk c16
      clear c16
      obtain ⟨y981, hy981⟩ : ∃ y_ : List Int, y_ = (y978 ++ x8_1) := ⟨_, rfl⟩
      replace H : (if y981.length + t968.length < 140737488355328 then ((r1_sum.f k1 x7_1 (y981 ++ t968)).bind fun t987 => (if x8_1.length < 140737488355328 then (r1_Mul.l0 k1 t968 t974 t987 (x8_1 ++ [0]) (wrap64 (x9_1 + 1))) else (none))) else (none)) = some r := by first | (rw [hy981]; with_reducible exact H) | (have H2_ := bsm H; first | (rw [hy981]; with_reducible exact H2_) | with_reducible exact H2_) | with_reducible exact H | (rw [hy981]; exact H) | exact H
      have Ny981 := zMk hy981
      clear hy981
      by_cases c17 : y981.length + t968.length < 140737488355328
      rotate_left
      · rw [if_neg c17] at H; exact absurd H (by simp)
      rw [if_pos c17] at H
      have LMc17 := zMk c17
      clear c17
      obtain ⟨y984, hy984⟩ : ∃ y_ : List Int, y_ = (y981 ++ t968) := ⟨_, rfl⟩
      replace H : ((r1_sum.f k1 x7_1 y984).bind fun t987 => (if x8_1.length < 140737488355328 then (r1_Mul.l0 k1 t968 t974 t987 (x8_1 ++ [0]) (wrap64 (x9_1 + 1))) else (none))) = some r := by first | (rw [hy984]; with_reducible exact H) | (have H2_ := bsm H; first | (rw [hy984]; with_reducible exact H2_) | with_reducible exact H2_) | with_reducible exact H | (rw [hy984]; exact H) | exact H
      have Ny984 := zMk hy984
      clear hy984
      replace H := bnd H
      obtain ⟨t987, A180, H⟩ := H
      have A18 := zMk A180
      clear A180
      by_cases c19 : x8_1.length < 140737488355328
      rotate_left
      · rw [if_neg c19] at H; exact absurd H (by simp)
      rw [if_pos c19] at H
      have LMc19 := zMk c19
      clear c19
      obtain ⟨y990, hy990⟩ : ∃ y_ : List Int, y_ = (x8_1 ++ [0]) := ⟨_, rfl⟩
      replace H : (r1_Mul.l0 k1 t968 t974 t987 y990 (wrap64 (x9_1 + 1))) = some r := by first | (rw [hy990]; with_reducible exact H) | (have H2_ := bsm H; first | (rw [hy990]; with_reducible exact H2_) | with_reducible exact H2_) | with_reducible exact H | (rw [hy990]; exact H) | exact H
      have Ny990 := zMk hy990
      clear hy990
      have H' := zMk H
      clear H
      obtain ⟨Ao20, co20, eo20⟩ := zRs HO_6.out
      subst eo20
      have p977 : 0 ≤ (x9_1 : Int) := of_decide_eq_true (by assumption)
      have q977 : x9_1 < (t974.length : Int) := of_decide_eq_true (by assumption)
      obtain ⟨ad977, e977, hx977_0⟩ := zAi (zRr HO_6.out).2.2 x9_1 p977 q977
      cases e977
      replace p977 := eq_true p977
      replace q977 := eq_true q977
      go_wp2_with (first | ((with_reducible refine gate_dst (N := 28) rfl ?_); refine Kd.R_lit (Kd.int .u8) _ 5 ?hg (N := 28) ?hd (xs := ([] : List Int)) (inner := []) (ok := fun _ => True) (okp := fun _ => True) ?hr ?hp (fun _ hk => hk) trivial (Below.refl _ _) (Nat.le_refl _) (by simp) ?_; (case hd => rfl); (case hg => rfl); (case hr => first | (go_simp; done)|(go_simp; rfl)|(go_simp; rw [show ∀ x : Int, IntKind.u32.wrap (IntKind.u8.wrap x) = x % 256 from fun x => (by show (x % 256) % 4294967296 = x % 256; omega)])); (case hp => exact (Reps.none _ _)); intro v979 w21 ho22 hb hg_ hnew_; clear hg_ hnew_; (first |  rw [← Ny978.out] at ho22|  (simp only [Int.reduceToNat] at ho22; rw [← Ny978.out] at ho22)); have HO980 := zMk (zRl (zRw (zRw (zRw (zRw ho22 (zRt (by exact uR HO_5.out))) (zRt (by exact uR HO_6.out))) (zRt (by exact uR HO_7.out))) (zRt (by exact uR HO_8.out))) (zBs (by exact uT HB.out))); replace HO_5 := zMk (zRe (by exact uR HO_5.out) (zRz ho22) hb); replace HO_6 := zMk (zRe (by exact uR HO_6.out) (zRz ho22) hb); replace HO_7 := zMk (zRe (by exact uR HO_7.out) (zRz ho22) hb); replace HO_8 := zMk (zRe (by exact uR HO_8.out) (zRz ho22) hb); replace HB := zMk (zBt (by exact uT HB.out) hb); clear hb ho22; obtain ⟨Ao24, co24, eo24⟩ := zRs HO_8.out; subst eo24)|((with_reducible refine gate_builtin (b := .append) (xs := #[.tmp 28, .tmp 29]) rfl ?_); at_builtin; refine Kd.R_append_rows (Kd.int .u8) (w0 := w) w.heap.size rfl (.tmp 28) (.tmp 29) 67 5 (.int .u8 0) 1 rfl Tryd.underlying67 info5 rfl (by decide) (by omega) v979 y978 x8_1 _ _ _ (fun k_ => some k_ ≠ (v969 : Value).ownBlock ∧ some k_ ≠ (.slice (some ad977) t974.length co20 : Value).ownBlock ∧ some k_ ≠ (u7 : Value).ownBlock ∧ some k_ ≠ (.slice Ao24 x8_1.length co24 : Value).ownBlock) (fun _ => False) rfl rfl ?aO ?aR (fun _ _ h => h) (fun _ h => h.elim) ?aF ?aB ?aS ?aL ?_; (case aR => exact uC (zRr HO_8.out).2.2); (case aB => exact (by exact uT HB.out)); (case aF => exact (fun k_ hk => ⟨Kd.fresh' (zRt (by exact uR HO_5.out)) k_ hk, Kd.fresh' (zRt (by exact uR HO_6.out)) k_ hk, Kd.fresh' (zRt (by exact uR HO_7.out)) k_ hk, Kd.fresh' (zRt (by exact uR HO_8.out)) k_ hk⟩)); (case aO => exact (by (with_reducible repeat (first |  apply zRa|  apply zRn|  apply zRd)); exact zRm HO980.out (fun _ hk => ⟨hk.1.1.1.2, ⟨hk.1.1.2, ⟨hk.1.2, hk.2⟩⟩⟩))); (case aS => exact (zBs (by exact uT HB.out))); (case aL => have := LMc16.out; omega); intro v982 w23 ho hb hg hat; rw [← Ny981.out] at ho; replace HO_5 := zMk (Kd.R_after (ok := (fun k_ => some k_ ≠ (.slice (some ad977) t974.length co20 : Value).ownBlock ∧ some k_ ≠ (u7 : Value).ownBlock ∧ some k_ ≠ (.slice Ao24 x8_1.length co24 : Value).ownBlock)) (by exact uR HO_5.out) hg hat); replace HO_6 := zMk (Kd.R_after (ok := (fun k_ => some k_ ≠ (v969 : Value).ownBlock ∧ some k_ ≠ (u7 : Value).ownBlock ∧ some k_ ≠ (.slice Ao24 x8_1.length co24 : Value).ownBlock)) (by exact uR HO_6.out) hg hat); replace HO_7 := zMk (Kd.R_after (ok := (fun k_ => some k_ ≠ (v969 : Value).ownBlock ∧ some k_ ≠ (.slice (some ad977) t974.length co20 : Value).ownBlock ∧ some k_ ≠ (.slice Ao24 x8_1.length co24 : Value).ownBlock)) (by exact uR HO_7.out) hg hat); replace HO_8 := zMk (Kd.R_after (ok := (fun k_ => some k_ ≠ (v969 : Value).ownBlock ∧ some k_ ≠ (.slice (some ad977) t974.length co20 : Value).ownBlock ∧ some k_ ≠ (u7 : Value).ownBlock)) (by exact uR HO_8.out) hg hat); replace HB := zMk (hb); have HO983 := zMk (ho); clear HO980 ho hb hg hat; obtain ⟨Ao26, co26, eo26⟩ := zRs HO_5.out; subst eo26)|((with_reducible refine gate_builtin (b := .append) (xs := #[.tmp 30, .tmp 31]) rfl ?_); at_builtin; refine Kd.R_append_rows (Kd.int .u8) (w0 := w) w.heap.size rfl (.tmp 30) (.tmp 31) 67 5 (.int .u8 0) 1 rfl Tryd.underlying67 info5 rfl (by decide) (by omega) v982 y981 t968 _ _ _ (fun k_ => some k_ ≠ (.slice Ao26 t968.length co26 : Value).ownBlock ∧ some k_ ≠ (.slice (some ad977) t974.length co20 : Value).ownBlock ∧ some k_ ≠ (u7 : Value).ownBlock ∧ some k_ ≠ (.slice Ao24 x8_1.length co24 : Value).ownBlock) (fun _ => False) rfl rfl ?aO ?aR (fun _ _ h => h) (fun _ h => h.elim) ?aF ?aB ?aS ?aL ?_; (case aR => exact uC (zRr HO_5.out).2.2); (case aB => exact (by exact uT HB.out)); (case aF => exact (fun k_ hk => ⟨Kd.fresh' (zRt (by exact uR HO_5.out)) k_ hk, Kd.fresh' (zRt (by exact uR HO_6.out)) k_ hk, Kd.fresh' (zRt (by exact uR HO_7.out)) k_ hk, Kd.fresh' (zRt (by exact uR HO_8.out)) k_ hk⟩)); (case aO => exact (by exact uR HO983.out)); (case aS => exact (zBs (by exact uT HB.out))); (case aL => have := LMc17.out; omega); intro v985 w25 ho hb hg hat; rw [← Ny984.out] at ho; replace HO_5 := zMk (Kd.R_after (ok := (fun k_ => some k_ ≠ (.slice (some ad977) t974.length co20 : Value).ownBlock ∧ some k_ ≠ (u7 : Value).ownBlock ∧ some k_ ≠ (.slice Ao24 x8_1.length co24 : Value).ownBlock)) (by exact uR HO_5.out) hg hat); replace HO_6 := zMk (Kd.R_after (ok := (fun k_ => some k_ ≠ (.slice Ao26 t968.length co26 : Value).ownBlock ∧ some k_ ≠ (u7 : Value).ownBlock ∧ some k_ ≠ (.slice Ao24 x8_1.length co24 : Value).ownBlock)) (by exact uR HO_6.out) hg hat); replace HO_7 := zMk (Kd.R_after (ok := (fun k_ => some k_ ≠ (.slice Ao26 t968.length co26 : Value).ownBlock ∧ some k_ ≠ (.slice (some ad977) t974.length co20 : Value).ownBlock ∧ some k_ ≠ (.slice Ao24 x8_1.length co24 : Value).ownBlock)) (by exact uR HO_7.out) hg hat); replace HO_8 := zMk (Kd.R_after (ok := (fun k_ => some k_ ≠ (.slice Ao26 t968.length co26 : Value).ownBlock ∧ some k_ ≠ (.slice (some ad977) t974.length co20 : Value).ownBlock ∧ some k_ ≠ (u7 : Value).ownBlock)) (by exact uR HO_8.out) hg hat); replace HB := zMk (hb); have HO986 := zMk (ho); clear HO983 ho hb hg hat; obtain ⟨Ao27, co27, eo27⟩ := zRs HO_7.out; subst eo27; obtain ⟨Ao28, co28, eo28⟩ := zRs HO986.out; subst eo28)|((with_reducible refine gate_callee (f := 67) rfl ?_); refine goesL_ (some 33) rfl rfl Tryd.func67 (by kernel_rfl) rfl #[.slice Ao27 x7_1.length co27, .slice Ao28 y984.length co28] rfl (by (try simp only [zMa, zMc, zMn]); first |  done|  rfl|  (simp only [zLd, zLt]; rfl)) ?_; (with_reducible refine (r1_sum.calls k1 _ _ x7_1 _ _ y984 t987 _ ?side1 ?side2 ?side3 ?side4 A18.out).mono ?_); (case side1 => exact uC (zRr HO_7.out).2.2); (case side2 => exact (zRr HO_7.out).2.1); (case side3 => exact uC (zRr HO986.out).2.2); (case side4 => exact (zRr HO986.out).2.1); rintro e w29 ⟨v988, rfl, ho0, hb⟩; refine ⟨_, rfl, ?_⟩; have HO989 := zMk (zRl (zRw (zRw (zRw (zRw (zRw ho0 (zRt (by exact uR HO_5.out))) (zRt (by exact uR HO_6.out))) (zRt (by exact uR HO_7.out))) (zRt (by exact uR HO_8.out))) (zRt (by exact uR HO986.out))) (zBs (by exact uT HB.out))); replace HO_5 := zMk (zRe (by exact uR HO_5.out) (zRz ho0) hb); replace HO_6 := zMk (zRe (by exact uR HO_6.out) (zRz ho0) hb); replace HO_7 := zMk (zRe (by exact uR HO_7.out) (zRz ho0) hb); replace HO_8 := zMk (zRe (by exact uR HO_8.out) (zRz ho0) hb); replace HO986 := zMk (zRe (by exact uR HO986.out) (zRz ho0) hb); replace HB := zMk (zBt (by exact uT HB.out) hb))|((with_reducible refine gate_builtin (b := .append) (xs := #[.tmp 34, .tmp 35]) rfl ?_); at_builtin; refine Kd.R_append (Kd.int .u8) (w0 := w) w.heap.size rfl (.tmp 34) (.tmp 35) 67 5 (.int .u8 0) 1 rfl Tryd.underlying67 info5 rfl (by decide) (by omega) (.slice Ao24 x8_1.length co24) x8_1 0 [.int .u8 0] (fun k_ => some k_ ≠ (.slice Ao26 t968.length co26 : Value).ownBlock ∧ some k_ ≠ (.slice (some ad977) t974.length co20 : Value).ownBlock ∧ some k_ ≠ (.slice Ao27 x7_1.length co27 : Value).ownBlock ∧ some k_ ≠ (.slice Ao28 y984.length co28 : Value).ownBlock ∧ some k_ ≠ (v988 : Value).ownBlock) (fun _ => False) rfl rfl ?aP (fun _ hk => hk.elim) ?aF ?aO ?aB ?aS ?aL ?_; (case aP => exact rfl); (case aB => exact (by exact uT HB.out)); (case aF => exact (fun k_ hk => ⟨Kd.fresh' (zRt (by exact uR HO_5.out)) k_ hk, Kd.fresh' (zRt (by exact uR HO_6.out)) k_ hk, Kd.fresh' (zRt (by exact uR HO_7.out)) k_ hk, Kd.fresh' (zRt (by exact uR HO986.out)) k_ hk, Kd.fresh' (zRt (by exact uR HO989.out)) k_ hk⟩)); (case aO => exact (by (with_reducible repeat (first |  apply zRa|  apply zRn|  apply zRd)); exact zRm HO_8.out (fun _ hk => ⟨hk.1.1.1, ⟨hk.1.1.2.1, ⟨hk.1.1.2.2, ⟨hk.1.2, hk.2⟩⟩⟩⟩))); (case aS => exact (zBs (by exact uT HB.out))); (case aL => have := LMc19.out; omega); intro v991 w30 ho hb hg hat; rw [← Ny990.out] at ho; replace HO_5 := zMk (Kd.R_after (ok := (fun k_ => some k_ ≠ (.slice (some ad977) t974.length co20 : Value).ownBlock ∧ some k_ ≠ (.slice Ao27 x7_1.length co27 : Value).ownBlock ∧ some k_ ≠ (.slice Ao28 y984.length co28 : Value).ownBlock ∧ some k_ ≠ (v988 : Value).ownBlock)) (by (with_reducible repeat (first |  apply zRa|  apply zRn|  apply zRd)); exact zRm HO_5.out (fun _ hk => ⟨⟨hk.1.1.1, ⟨hk.1.1.2.1, ⟨hk.1.2, hk.2⟩⟩⟩, hk.1.1.2.2⟩)) hg hat); replace HO_6 := zMk (Kd.R_after (ok := (fun k_ => some k_ ≠ (.slice Ao26 t968.length co26 : Value).ownBlock ∧ some k_ ≠ (.slice Ao27 x7_1.length co27 : Value).ownBlock ∧ some k_ ≠ (.slice Ao28 y984.length co28 : Value).ownBlock ∧ some k_ ≠ (v988 : Value).ownBlock)) (by (with_reducible repeat (first |  apply zRa|  apply zRn|  apply zRd)); exact zRm HO_6.out (fun _ hk => ⟨⟨hk.1.1.1, ⟨hk.1.1.2.1, ⟨hk.1.2, hk.2⟩⟩⟩, hk.1.1.2.2⟩)) hg hat); replace HO_7 := zMk (Kd.R_after (ok := (fun k_ => some k_ ≠ (.slice Ao26 t968.length co26 : Value).ownBlock ∧ some k_ ≠ (.slice (some ad977) t974.length co20 : Value).ownBlock ∧ some k_ ≠ (.slice Ao28 y984.length co28 : Value).ownBlock ∧ some k_ ≠ (v988 : Value).ownBlock)) (by (with_reducible repeat (first |  apply zRa|  apply zRn|  apply zRd)); exact zRm HO_7.out (fun _ hk => ⟨⟨hk.1.1.1, ⟨hk.1.1.2.1, ⟨hk.1.2, hk.2⟩⟩⟩, hk.1.1.2.2⟩)) hg hat); replace HO986 := zMk (Kd.R_after (ok := (fun k_ => some k_ ≠ (.slice Ao26 t968.length co26 : Value).ownBlock ∧ some k_ ≠ (.slice (some ad977) t974.length co20 : Value).ownBlock ∧ some k_ ≠ (.slice Ao27 x7_1.length co27 : Value).ownBlock ∧ some k_ ≠ (v988 : Value).ownBlock)) (by (with_reducible repeat (first |  apply zRa|  apply zRn|  apply zRd)); exact zRm HO986.out (fun _ hk => ⟨⟨hk.1.1, ⟨hk.1.2.1, ⟨hk.1.2.2.1, hk.2⟩⟩⟩, hk.1.2.2.2⟩)) hg hat); replace HO989 := zMk (Kd.R_after (ok := (fun k_ => some k_ ≠ (.slice Ao26 t968.length co26 : Value).ownBlock ∧ some k_ ≠ (.slice (some ad977) t974.length co20 : Value).ownBlock ∧ some k_ ≠ (.slice Ao27 x7_1.length co27 : Value).ownBlock ∧ some k_ ≠ (.slice Ao28 y984.length co28 : Value).ownBlock)) (by (with_reducible repeat (first |  apply zRa|  apply zRn|  apply zRd)); exact zRm HO989.out (fun _ hk => ⟨⟨hk.1.1.1.1.2, ⟨hk.1.1.1.2, ⟨hk.1.1.2, hk.2⟩⟩⟩, hk.1.2⟩)) hg hat); replace HB := zMk (hb); have HO992 := zMk (ho); clear HO_8 ho hb hg hat))
      go_roundg k1
      case measure => have := HK1.out; omega
      case rel => exact ⟨(t987), (y990), (wrap64 (x9_1 + 1)), (by first | rfl | (simp; done) | (simp [*]; done)), H', ⟨by have := HK1.out; omega⟩, ⟨by (with_reducible repeat (first | apply zRa | apply zRn | apply zRd)); exact zRm HO_5.out (fun _ hk => ⟨hk.1.1, ⟨hk.1.2.2.2, hk.2⟩⟩)⟩, ⟨by (with_reducible repeat (first | apply zRa | apply zRn | apply zRd)); exact zRm HO_6.out (fun _ hk => ⟨hk.1.1, ⟨hk.1.2.2.2, hk.2⟩⟩)⟩, ⟨by (with_reducible repeat (first | apply zRa | apply zRn | apply zRd)); exact zRm HO989.out (fun _ hk => ⟨hk.1.1, ⟨hk.1.2.1, hk.2⟩⟩)⟩, ⟨by (with_reducible repeat (first | apply zRa | apply zRn | apply zRd)); exact zRm HO992.out (fun _ hk => ⟨hk.1, ⟨hk.2.1, hk.2.2.2.2⟩⟩)⟩, ⟨by exact uT HB.out⟩⟩
    · rw [if_neg c15] at H
      have c15b0 : ((rd t974 x9_1) == 1) = false := beq_eq_false_iff_ne.mpr c15
      have c15b1 : ((rd t974 x9_1) != 1) = true := bne_iff_ne.mpr c15
      by_cases c31 : x8_1.length < 140737488355328
      rotate_left
      · rw [if_neg c31] at H; exact absurd H (by simp)
      rw [if_pos c31] at H
      have LMc31 := zMk c31
      clear c31
      obtain ⟨y993, hy993⟩ : ∃ y_ : List Int, y_ = (x8_1 ++ [0]) := ⟨_, rfl⟩
      replace H : (r1_Mul.l0 k1 t968 t974 x7_1 y993 (wrap64 (x9_1 + 1))) = some r := by first | (rw [hy993]; with_reducible exact H) | (have H2_ := bsm H; first | (rw [hy993]; with_reducible exact H2_) | with_reducible exact H2_) | with_reducible exact H | (rw [hy993]; exact H) | exact H
      have Ny993 := zMk hy993
      clear hy993
      have H' := zMk H
      clear H
      obtain ⟨Ao32, co32, eo32⟩ := zRs HO_6.out
      subst eo32
      have p977 : 0 ≤ (x9_1 : Int) := of_decide_eq_true (by assumption)
      have q977 : x9_1 < (t974.length : Int) := of_decide_eq_true (by assumption)
      obtain ⟨ad977, e977, hx977_0⟩ := zAi (zRr HO_6.out).2.2 x9_1 p977 q977
      cases e977
      replace p977 := eq_true p977
      replace q977 := eq_true q977
      go_wp2_with (first | ((with_reducible refine gate_builtin (b := .append) (xs := #[.tmp 34, .tmp 35]) rfl ?_); at_builtin; refine Kd.R_append (Kd.int .u8) (w0 := w) w.heap.size rfl (.tmp 34) (.tmp 35) 67 5 (.int .u8 0) 1 rfl Tryd.underlying67 info5 rfl (by decide) (by omega) u8 x8_1 0 [.int .u8 0] (fun k_ => some k_ ≠ (v969 : Value).ownBlock ∧ some k_ ≠ (.slice (some ad977) t974.length co32 : Value).ownBlock ∧ some k_ ≠ (u7 : Value).ownBlock) (fun _ => False) rfl rfl ?aP (fun _ hk => hk.elim) ?aF ?aO ?aB ?aS ?aL ?_; (case aP => exact rfl); (case aB => exact (by exact uT HB.out)); (case aF => exact (fun k_ hk => ⟨Kd.fresh' (zRt (by exact uR HO_5.out)) k_ hk, Kd.fresh' (zRt (by exact uR HO_6.out)) k_ hk, Kd.fresh' (zRt (by exact uR HO_7.out)) k_ hk⟩)); (case aO => exact (by exact uR HO_8.out)); (case aS => exact (zBs (by exact uT HB.out))); (case aL => have := LMc31.out; omega); intro v994 w33 ho hb hg hat; rw [← Ny993.out] at ho; replace HO_5 := zMk (Kd.R_after (ok := (fun k_ => some k_ ≠ (.slice (some ad977) t974.length co32 : Value).ownBlock ∧ some k_ ≠ (u7 : Value).ownBlock)) (by (with_reducible repeat (first |  apply zRa|  apply zRn|  apply zRd)); exact zRm HO_5.out (fun _ hk => ⟨⟨hk.1, hk.2.1⟩, hk.2.2⟩)) hg hat); replace HO_6 := zMk (Kd.R_after (ok := (fun k_ => some k_ ≠ (v969 : Value).ownBlock ∧ some k_ ≠ (u7 : Value).ownBlock)) (by (with_reducible repeat (first |  apply zRa|  apply zRn|  apply zRd)); exact zRm HO_6.out (fun _ hk => ⟨⟨hk.1, hk.2.1⟩, hk.2.2⟩)) hg hat); replace HO_7 := zMk (Kd.R_after (ok := (fun k_ => some k_ ≠ (v969 : Value).ownBlock ∧ some k_ ≠ (.slice (some ad977) t974.length co32 : Value).ownBlock)) (by (with_reducible repeat (first |  apply zRa|  apply zRn|  apply zRd)); exact zRm HO_7.out (fun _ hk => ⟨⟨hk.1, hk.2.1⟩, hk.2.2⟩)) hg hat); replace HB := zMk (hb); have HO995 := zMk (ho); clear HO_8 ho hb hg hat))
      go_roundg k1
      case measure => have := HK1.out; omega
      case rel => exact ⟨(x7_1), (y993), (wrap64 (x9_1 + 1)), (by first | rfl | (simp; done) | (simp [*]; done)), H', ⟨by have := HK1.out; omega⟩, ⟨by (with_reducible repeat (first | apply zRa | apply zRn | apply zRd)); exact zRm HO_5.out (fun _ hk => ⟨hk.1.1, ⟨hk.1.2, hk.2⟩⟩)⟩, ⟨by (with_reducible repeat (first | apply zRa | apply zRn | apply zRd)); exact zRm HO_6.out (fun _ hk => ⟨hk.1.1, ⟨hk.1.2, hk.2⟩⟩)⟩, ⟨by (with_reducible repeat (first | apply zRa | apply zRn | apply zRd)); exact zRm HO_7.out (fun _ hk => ⟨hk.1.1, ⟨hk.1.2, hk.2⟩⟩)⟩, ⟨by exact uR HO995.out⟩, ⟨by exact uT HB.out⟩⟩
  · rw [if_neg c13] at H
    have c13b0 : decide (x9_1 < (t974.length : Int)) = false := decide_eq_false c13
    clear c13
    replace H := bnd H
    obtain ⟨t996, A340, H⟩ := H
    have A34 := zMk A340
    clear A340
    obtain rfl := zOi H
    obtain ⟨Ao35, co35, eo35⟩ := zRs HO_6.out
    subst eo35
    obtain ⟨Ao36, co36, eo36⟩ := zRs HO_7.out
    subst eo36
    go_wp2_with (first | ((with_reducible refine gate_callee (f := 65) rfl ?_); refine goesL_ (some 38) rfl rfl Tryd.func65 (by kernel_rfl) rfl #[.slice Ao36 x7_1.length co36] rfl (by (try simp only [zMa, zMc, zMn]); first |  done|  rfl|  (simp only [zLd, zLt]; rfl)) ?_; (with_reducible refine (r1_limbs.calls k1 _ _ x7_1 t996 _ ?side1 ?side2 A34.out).mono ?_); (case side1 => exact uC (zRr HO_7.out).2.2); (case side2 => exact (zRr HO_7.out).2.1); rintro e w37 ⟨v997, rfl, ho0, hb⟩; refine ⟨_, rfl, ?_⟩; replace HO_5 := zMk (zRb (by exact uR HO_5.out) hb); replace HO_6 := zMk (zRb (by exact uR HO_6.out) hb); replace HO_7 := zMk (zRb (by exact uR HO_7.out) hb); replace HO_8 := zMk (zRb (by exact uR HO_8.out) hb); have HO998 := zMk (zRl ho0 (zBs (by exact uT HB.out))); replace HB := zMk (zBt (by exact uT HB.out) hb)))
    go_ret
    exact ⟨_, by first | rfl | (simp [errW_none, errW_some] <;> rfl) | (simp [*, errW_none, errW_some] <;> rfl), by exact uR HO998.out, by exact uT HB.out⟩

theorem bits_zeros (n : Nat) : Bits (List.replicate n 0) := fun x hx => .inl (List.eq_of_mem_replicate hx)
theorem bval_zeros (n : Nat) : bval (List.replicate n 0) = 0 := by
  induction n with
  | zero => rfl
  | succ n ih => simp only [List.replicate_succ, bval, ih]; rfl
theorem rmul_l0 (x y : List Int) (hx : Bits x) (hy : Bits y) (hl : x.length + 2 * y.length < 1000000000) :
    ∀ (j m k : Nat) (A : List Int), m + j = y.length → Bits A → A.length ≤ x.length + 2 * m → bval A = bval x * bval (y.take m) →
    ∃ r, r1_Mul.l0 (k + 2 * (x.length + 2 * y.length) + 10 + j + 1) x y A (List.replicate m 0) (m : Int) = some r ∧ IsNum r (bval x * bval y) := by
  intro j
  induction j with
  | zero =>
    intro m k A hm hA lA hv
    obtain ⟨r, h1, h2, _⟩ := limbs_f A hA (by omega) (k + 2 * (x.length + 2 * y.length) + 10) (by omega)
    refine ⟨r, ?_, ?_⟩
    · rw [Nat.add_zero, r1_Mul.l0, if_neg (by omega), h1]
      rfl
    · rw [hv, List.take_of_length_le (by omega)] at h2
      exact h2
  | succ j ih =>
    intro m k A hm hA lA hv
    have hz : List.replicate m (0 : Int) ++ [0] = List.replicate (m + 1) 0 := List.replicate_succ'.symm
    have hlz : (List.replicate m (0 : Int)).length = m := List.length_replicate
    have hS : Bits (List.replicate m 0 ++ x) := (bits_zeros m).append hx
    have hSl : (List.replicate m (0 : Int) ++ x).length = m + x.length := by rw [List.length_append, hlz]
    obtain ⟨t, h1, h2, h3, h4⟩ := sum_f A (List.replicate m 0 ++ x) hA hS (by omega) (k + 2 * (x.length + 2 * y.length) + 10 + j + 1) (by omega)
    rcases hy.getD m with h0 | h0
    · obtain ⟨r, h5, h6⟩ := ih (m + 1) k A (by omega) hA (by omega) (by rw [bval_take_succ, h0, hv, Int.mul_zero, Int.add_zero])
      refine ⟨r, ?_, h6⟩
      rw [show k + 2 * (x.length + 2 * y.length) + 10 + (j + 1) + 1 = (k + 2 * (x.length + 2 * y.length) + 10 + j + 1) + 1 by omega, r1_Mul.l0, if_pos (by omega), if_pos (by omega), rd_nat, h0, if_neg (by decide), if_pos (by omega), hz, w64 (by omega) (by omega)]
      exact h5
    · obtain ⟨r, h5, h6⟩ := ih (m + 1) k t (by omega) h2 (by omega) (by
        rw [h4, hv, bval_append, bval_zeros, hlz, bval_take_succ, h0, Int.zero_add, Int.mul_one, Int.mul_add, Int.mul_comm (bval x) (2 ^ m)])
      refine ⟨r, ?_, h6⟩
      rw [show k + 2 * (x.length + 2 * y.length) + 10 + (j + 1) + 1 = (k + 2 * (x.length + 2 * y.length) + 10 + j + 1) + 1 by omega, r1_Mul.l0, if_pos (by omega), if_pos (by omega), rd_nat, h0, if_pos rfl]
      simp only [zOb, List.nil_append]
      rw [if_pos (by simp only [zLn]; omega), if_pos (by omega), h1, zOb, if_pos (by omega), hz, w64 (by omega) (by omega)]
      exact h5
theorem rmul_f (a b : List Int) (ha : Limbs a) (hb : Limbs b) (la : a.length < 1000000) (lb : b.length < 1000000) (k : Nat) (hk : 200 * a.length + 200 * b.length + 100 ≤ k) :
    ∃ r, r1_Mul.f k a b = some r ∧ IsNum r (val a * val b) := by
  have ca := cut_length a
  have cb := cut_length b
  have la2 := bitsOf_length (cut a)
  have lb2 := bitsOf_length (cut b)
  obtain ⟨d, hd⟩ : ∃ d, k = d + 2 * ((bitsOf (cut a)).length + 2 * (bitsOf (cut b)).length) + 10 + (bitsOf (cut b)).length + 1 := ⟨k - (2 * ((bitsOf (cut a)).length + 2 * (bitsOf (cut b)).length) + 10 + (bitsOf (cut b)).length + 1), by omega⟩
  obtain ⟨r, h1, h2⟩ := rmul_l0 (bitsOf (cut a)) (bitsOf (cut b)) (bitsOf_bits _) (bitsOf_bits _) (by omega) (bitsOf (cut b)).length 0 d [] (by omega) Bits.nil (by simp) (by simp [bval])
  refine ⟨r, ?_, by rw [bval_bitsOf (cut_limbs ha), bval_bitsOf (cut_limbs hb), cut_val, cut_val] at h2; exact h2⟩
  rw [← hd] at h1
  unfold r1_Mul.f
  rw [norm_f a (by omega) k (by omega), zOb, bits_f _ (cut_limbs ha) (by omega) k (by omega), zOb, norm_f b (by omega) k (by omega), zOb, bits_f _ (cut_limbs hb) (by omega) k (by omega), zOb]
  exact h1
theorem bits_u32 (a b : Nat) (ha : a < 4294967296) (hb : b < 4294967296) : Go.bits .and .u32 (a : Int) (b : Int) = ((a &&& b : Nat) : Int) ∧ Go.bits .or .u32 (a : Int) (b : Int) = ((a ||| b : Nat) : Int) ∧ Go.bits .xor .u32 (a : Int) (b : Int) = ((a ^^^ b : Nat) : Int) := by
  have h0 := bits_nat .u32 32 (by decide) wraps_u32 a b ha hb
  refine ⟨h0.1, h0.2, ?_⟩
  have h1 : (BitVec.ofInt 32 (a : Int)).toNat = a := by
    rw [BitVec.ofInt_natCast, BitVec.toNat_ofNat]; exact Nat.mod_eq_of_lt (by omega)
  have h2 : (BitVec.ofInt 32 (b : Int)).toNat = b := by
    rw [BitVec.ofInt_natCast, BitVec.toNat_ofNat]; exact Nat.mod_eq_of_lt (by omega)
  show IntKind.u32.wrap ((BitVec.ofInt 32 (a : Int) ^^^ BitVec.ofInt 32 (b : Int)).toNat : Int) = _
  rw [BitVec.toNat_xor, h1, h2]
  have hx : a ^^^ b < 2 ^ 32 := Nat.xor_lt_two_pow (by omega) (by omega)
  exact wraps_u32 _ (by omega) (by omega)
theorem top_bit (n : Nat) (h : n < 4294967296) : n / 2147483648 = (n.testBit 31).toNat := by
  rw [Nat.testBit_eq_decide_div_mod_eq]
  have h1 : n / 2 ^ 31 = n / 2147483648 := rfl
  rw [h1]
  have h2 : n / 2147483648 < 2 := by omega
  generalize n / 2147483648 = q at h2 ⊢
  have : q = 0 ∨ q = 1 := by omega
  rcases this with rfl | rfl <;> rfl
theorem sub32_f (x y c : Int) (hx : 0 ≤ x ∧ x < 4294967296) (hy : 0 ≤ y ∧ y < 4294967296) (hc : c = 0 ∨ c = 1) :
    ∃ d b : Int, bits_Sub32.f x y c = some (d, b) ∧ 0 ≤ d ∧ d < 4294967296 ∧ (b = 0 ∨ b = 1) ∧ x - y - c = d - 4294967296 * b := by
  obtain ⟨d, hd⟩ : ∃ d : Int, (((x - y) % 4294967296) - c) % 4294967296 = d := ⟨_, rfl⟩
  have hd0 : 0 ≤ d ∧ d < 4294967296 := by omega
  obtain ⟨p, rfl⟩ := Int.eq_ofNat_of_zero_le hx.1
  obtain ⟨q, rfl⟩ := Int.eq_ofNat_of_zero_le hy.1
  obtain ⟨e, rfl⟩ := Int.eq_ofNat_of_zero_le hd0.1
  have hp : p < 4294967296 := by omega
  have hq : q < 4294967296 := by omega
  have he : e < 4294967296 := by omega
  have k1 : (4294967295 : Nat) ^^^ p < 4294967296 := Nat.xor_lt_two_pow (n := 32) (by decide) hp
  have k2 : p ^^^ q < 4294967296 := Nat.xor_lt_two_pow (n := 32) hp hq
  have k3 : (4294967295 : Nat) ^^^ (p ^^^ q) < 4294967296 := Nat.xor_lt_two_pow (n := 32) (by decide) k2
  have k4 : (4294967295 ^^^ p) &&& q < 4294967296 := Nat.and_lt_two_pow (n := 32) _ hq
  have k5 : (4294967295 ^^^ (p ^^^ q)) &&& e < 4294967296 := Nat.and_lt_two_pow (n := 32) _ he
  have k6 : ((4294967295 ^^^ p) &&& q) ||| ((4294967295 ^^^ (p ^^^ q)) &&& e) < 4294967296 := Nat.or_lt_two_pow (n := 32) k4 k5
  have hf : bits_Sub32.f (p : Int) (q : Int) c = some ((e : Int), (((((4294967295 ^^^ p) &&& q) ||| ((4294967295 ^^^ (p ^^^ q)) &&& e)) / 2147483648 : Nat) : Int)) := by
    unfold bits_Sub32.f
    rw [hd, show (4294967295 : Int) = ((4294967295 : Nat) : Int) from rfl, (bits_u32 4294967295 p (by decide) hp).2.2, (bits_u32 _ q k1 hq).1, (bits_u32 p q hp hq).2.2, (bits_u32 _ _ (by decide) k2).2.2, (bits_u32 _ e k3 he).1, (bits_u32 _ _ k4 k5).2.1]
    rfl
  refine ⟨e, _, hf, hd0.1, hd0.2, ?_, ?_⟩
  · omega
  · rw [top_bit _ k6]
    simp only [Nat.testBit_or, Nat.testBit_and, Nat.testBit_xor, show (4294967295 : Nat).testBit 31 = true from rfl]
    have t1 := top_bit p hp
    have t2 := top_bit q hq
    have t3 := top_bit e he
    generalize p.testBit 31 = tp at t1 ⊢
    generalize q.testBit 31 = tq at t2 ⊢
    generalize e.testBit 31 = te at t3 ⊢
    rcases hc with rfl | rfl <;> cases tp <;> cases tq <;> cases te <;> simp only [Bool.toNat_true, Bool.toNat_false, Bool.xor_true, Bool.xor_false, Bool.true_xor, Bool.false_xor, Bool.not_true, Bool.not_false, Bool.and_true, Bool.and_false, Bool.true_and, Bool.false_and, Bool.or_true, Bool.or_false, Bool.true_or, Bool.false_or] at t1 t2 t3 ⊢ <;> omega
theorem add32_f (x y c : Int) (hx : 0 ≤ x ∧ x < 4294967296) (hy : 0 ≤ y ∧ y < 4294967296) (hc : c = 0 ∨ c = 1) :
    ∃ d b : Int, bits_Add32.f x y c = some (d, b) ∧ 0 ≤ d ∧ d < 4294967296 ∧ (b = 0 ∨ b = 1) ∧ x + y + c = d + 4294967296 * b := by
  have e : IntKind.u64.wrap ((IntKind.u64.wrap ((IntKind.u64.wrap (x)) + (IntKind.u64.wrap (y)))) + (IntKind.u64.wrap (c))) = x + y + c := by
    rw [wraps_u64 x (by omega) (by omega), wraps_u64 y (by omega) (by omega), wraps_u64 (x + y) (by omega) (by omega), wraps_u64 c (by omega) (by omega), wraps_u64 (x + y + c) (by omega) (by omega)]
  refine ⟨(x + y + c) % 4294967296, (x + y + c) / 4294967296, ?_, by omega, by omega, by omega, by omega⟩
  unfold bits_Add32.f
  rw [e, show (x + y + c) / 4294967296 % 4294967296 = (x + y + c) / 4294967296 by omega]
theorem val_take_succ' (l : List Int) (n : Nat) : val (l.take (n + 1)) = val (l.take n) + 4294967296 ^ n * l.getD n 0 := by
  by_cases h : n < l.length
  · exact val_take_succ l n h
  · rw [List.take_of_length_le (by omega), List.take_of_length_le (by omega), getD_ge _ (by omega)]
    omega
theorem cut_len_mono {a b : List Int} (ha : Limbs a) (hb : Limbs b) (h : val b ≤ val a) : (cut b).length ≤ (cut a).length := by
  rcases Nat.lt_or_ge (cut a).length (cut b).length with hlt | hge
  · have h1 := val_lt (cut_limbs ha)
    have h2 := val_ge (cut_limbs hb) (cut_trim b) (by intro h0; rw [h0] at hlt; exact absurd hlt (by simp))
    have h3 : (4294967296 : Int) ^ (cut a).length ≤ 4294967296 ^ ((cut b).length - 1) := pow_up (by omega)
    rw [cut_val] at h1 h2
    omega
  · exact hge
theorem less_l0 (b : List Int) (hb : Limbs b) (N : Nat) (hN : N < 4611686018427387904) (T : Int) :
    ∀ (j m k : Nat) (X : List Int) (c : Int), m + j = N → X.length = N → Limbs X → (c = 0 ∨ c = 1) → val X - c * 4294967296 ^ m + val (b.take m) = T →
    ∃ X' c', n_less.l0 (k + j + 1) X b c (N : Int) (m : Int) = some (c', X') ∧ X'.length = N ∧ Limbs X' ∧ (c' = 0 ∨ c' = 1) ∧ val X' - c' * 4294967296 ^ N + val (b.take N) = T := by
  intro j
  induction j with
  | zero =>
    intro m k X c hm hX lX hc hT
    obtain rfl : m = N := by omega
    exact ⟨X, c, by rw [n_less.l0, if_neg (by omega)], hX, lX, hc, hT⟩
  | succ j ih =>
    intro m k X c hm hX lX hc hT
    obtain ⟨d, c', e, d0, d1, hc', hd⟩ := sub32_f (X.getD m 0) (b.getD m 0) c (lX.getD m) (hb.getD m) hc
    obtain ⟨X', c'', h1, h2, h3, h4, h5⟩ := ih (m + 1) k (X.set m d) c' (by omega) (by rw [List.length_set]; exact hX) (lX.set _ d0 d1) hc' (by
      rw [val_set _ _ _ (by omega), val_take_succ' b m, ← hT, Int.pow_succ]
      grind)
    refine ⟨X', c'', ?_, h2, h3, h4, h5⟩
    rw [show k + (j + 1) + 1 = (k + j + 1) + 1 by omega, n_less.l0, if_pos (by omega)]
    by_cases hbm : (m : Int) < (b.length : Int)
    · rw [if_pos hbm, if_pos (by omega), if_pos (by omega), rd_nat, rd_nat, e, zOb, w64 (by omega) (by omega), zTn, show ((m : Int) + 1) = ((m + 1 : Nat) : Int) by omega]
      exact h1
    · rw [getD_ge b (by omega)] at e
      rw [if_neg hbm, if_pos (by omega), if_pos (by omega), rd_nat, e, zOb, w64 (by omega) (by omega), zTn, show ((m : Int) + 1) = ((m + 1 : Nat) : Int) by omega]
      exact h1
theorem add_l0 (x0 a b : List Int) (ha : Limbs a) (hb : Limbs b) (hx : x0.length = a.length) (hba : b.length ≤ a.length) (hN : a.length < 35184372088832) :
    ∀ (j m k : Nat) (O : List Int) (c : Int), m + j = a.length → O.length = a.length + 1 → Limbs O → (c = 0 ∨ c = 1) → (∀ i, m ≤ i → O.getD i 0 = 0) → val O + c * 4294967296 ^ m = val (a.take m) + val (b.take m) →
    ∃ r, n_Add.l0 (k + j + 1) x0 b O c a (a.length : Int) (m : Int) = some r ∧ IsNum r (val a + val b) ∧ r.length ≤ a.length + 1 := by
  intro j
  induction j with
  | zero =>
    intro m k O c hm hO lO hc hz hT
    obtain rfl : m = a.length := by omega
    refine ⟨cut (O.set a.length c), ?_, ?_, by have := cut_length (O.set a.length c); rw [List.length_set] at this; omega⟩
    · rw [n_Add.l0, if_neg (by omega), if_pos (by omega), if_pos (by omega), cut_f, hx]
      rfl
    · have := IsNum.cut (lO.set a.length (v := c) (by omega) (by omega))
      rw [val_set _ _ _ (by omega), hz _ (Nat.le_refl _)] at this
      rw [List.take_length, List.take_of_length_le hba] at hT
      rw [show val O + 4294967296 ^ a.length * (c - 0) = val a + val b by rw [← hT]; grind] at this
      exact this
  | succ j ih =>
    intro m k O c hm hO lO hc hz hT
    obtain ⟨d, c', e, d0, d1, hc', hd⟩ := add32_f (a.getD m 0) (b.getD m 0) c (ha.getD m) (hb.getD m) hc
    obtain ⟨r, h1, h2, h3⟩ := ih (m + 1) k (O.set m d) c' (by omega) (by rw [List.length_set]; exact hO) (lO.set _ d0 d1) hc' (fun i hi => by rw [getD_set_ne _ _ (by omega)]; exact hz i (by omega)) (by
      rw [val_set _ _ _ (by omega), hz m (Nat.le_refl _), val_take_succ' b m, val_take_succ' a m, Int.pow_succ]
      grind)
    refine ⟨r, ?_, h2, h3⟩
    rw [show k + (j + 1) + 1 = (k + j + 1) + 1 by omega, n_Add.l0, if_pos (by omega), if_pos (by omega), if_pos (by omega)]
    by_cases hbm : (m : Int) < (b.length : Int)
    · rw [if_pos hbm, rd_nat, rd_nat, e, zOb, if_pos (by omega), w64 (by omega) (by omega), zTn, show ((m : Int) + 1) = ((m + 1 : Nat) : Int) by omega]
      exact h1
    · rw [getD_ge b (by omega)] at e
      rw [if_neg hbm, rd_nat, e, zOb, if_pos (by omega), w64 (by omega) (by omega), zTn, show ((m : Int) + 1) = ((m + 1 : Nat) : Int) by omega]
      exact h1
theorem add_j0 (a b : List Int) (ha : Limbs a) (hb : Limbs b) (hba : b.length ≤ a.length) (hN : a.length < 35184372088832) (k : Nat) (hk : a.length + 2 ≤ k) :
    ∃ r, n_Add.j0 k a b = some r ∧ IsNum r (val a + val b) ∧ r.length ≤ a.length + 1 := by
  obtain ⟨d, rfl⟩ : ∃ d, k = (d + a.length + 1) + 1 := ⟨k - (a.length + 2), by omega⟩
  obtain ⟨r, h1, h2, h3⟩ := add_l0 a a b ha hb rfl hba hN a.length 0 d (List.replicate (a.length + 1) 0) 0 (by omega) (by simp) (limbs_replicate _) (.inl rfl) (fun i _ => by
    by_cases hi : i < a.length + 1
    · rw [getD_lt _ (by simpa using hi)]; simp
    · rw [getD_ge _ (by simp; omega)]) (by rw [val_replicate]; simp [val])
  refine ⟨r, ?_, h2, h3⟩
  rw [n_Add.j0, w64 (by omega) (by omega), if_pos (by omega), show ((a.length : Int) + 1) = ((a.length + 1 : Nat) : Int) by omega, zTn, if_pos (by omega)]
  exact h1
theorem add_f (a b : List Int) (ha : Limbs a) (hb : Limbs b) (la : a.length < 35184372088832) (lb : b.length < 35184372088832) (k : Nat) (hka : a.length + 2 ≤ k) (hkb : b.length + 2 ≤ k) :
    ∃ r, n_Add.f k a b = some r ∧ IsNum r (val a + val b) ∧ r.length ≤ max a.length b.length + 1 := by
  unfold n_Add.f
  have ca := cut_length a
  have cb := cut_length b
  rw [cut_f, zOb, cut_f, zOb]
  by_cases h : ((cut a).length : Int) < ((cut b).length : Int)
  · obtain ⟨r, h1, h2, h3⟩ := add_j0 (cut b) (cut a) (cut_limbs hb) (cut_limbs ha) (by omega) (by omega) k (by omega)
    rw [cut_val, cut_val, Int.add_comm] at h2
    exact ⟨r, by rw [if_pos h]; exact h1, h2, by omega⟩
  · obtain ⟨r, h1, h2, h3⟩ := add_j0 (cut a) (cut b) (cut_limbs ha) (cut_limbs hb) (by omega) (by omega) k (by omega)
    rw [cut_val, cut_val] at h2
    exact ⟨r, by rw [if_neg h]; exact h1, h2, by omega⟩



@[irreducible] def Bp (n : Nat) : Int := (4294967296 : Int) ^ n
theorem Bp_zero : Bp 0 = 1 := by unfold Bp; rfl
theorem Bp_succ (n : Nat) : Bp (n + 1) = Bp n * 4294967296 := by unfold Bp; exact Int.pow_succ 4294967296 n
theorem Bp_add (m n : Nat) : Bp (m + n) = Bp m * Bp n := by unfold Bp; exact Int.pow_add 4294967296 m n
theorem Bp_pos (n : Nat) : 0 < Bp n := by unfold Bp; exact Int.pow_pos (by decide)
theorem pow_upB {m n : Nat} (h : m ≤ n) : Bp m ≤ Bp n := by unfold Bp; exact pow_up h
theorem val_appendB (a b : List Int) : val (a ++ b) = val a + Bp a.length * val b := by unfold Bp; exact val_append a b
theorem val_setB (l : List Int) (n : Nat) (v : Int) (h : n < l.length) : val (l.set n v) = val l + Bp n * (v - l.getD n 0) := by unfold Bp; exact val_set l n v h
theorem val_take_succB (l : List Int) (n : Nat) : val (l.take (n + 1)) = val (l.take n) + Bp n * l.getD n 0 := by unfold Bp; exact val_take_succ' l n
theorem val_ltB {l : List Int} (h : Limbs l) : val l < Bp l.length := by unfold Bp; exact val_lt h
theorem val_geB {l : List Int} (h : Limbs l) (ht : Trim l) (hn : l ≠ []) : Bp (l.length - 1) ≤ val l := by unfold Bp; exact val_ge h ht hn
theorem val_splitB (l : List Int) (n : Nat) (h : n ≤ l.length) : val l = val (l.take n) + Bp n * val (l.drop n) := by
  have h0 := val_appendB (l.take n) (l.drop n)
  rw [List.take_append_drop, zLt, Nat.min_eq_left h] at h0
  exact h0
theorem less_l0B (b : List Int) (hb : Limbs b) (N : Nat) (hN : N < 4611686018427387904) (k : Nat) (X : List Int) (hX : X.length = N) (lX : Limbs X) :
    ∃ X' c', n_less.l0 (k + N + 1) X b 0 (N : Int) 0 = some (c', X') ∧ X'.length = N ∧ Limbs X' ∧ (c' = 0 ∨ c' = 1) ∧ val X' - c' * Bp N + val (b.take N) = val X := by unfold Bp; exact less_l0 b hb N hN (val X) N 0 k X 0 (by omega) hX lX (.inl rfl) (by simp [val])
theorem w64e {x : Int} {m : Nat} (h : x = (m : Int)) (hm : m < 4611686018427387904) : wrap64 x = (m : Int) := by rw [h]; exact w64 (by omega) (by omega)
theorem Limbs.drop {l : List Int} (h : Limbs l) (n : Nat) : Limbs (l.drop n) := fun x hx => h x (List.mem_of_mem_drop hx)
theorem Limbs.append {a b : List Int} (ha : Limbs a) (hb : Limbs b) : Limbs (a ++ b) := fun x hx => by
  rcases List.mem_append.1 hx with h | h
  · exact ha x h
  · exact hb x h
theorem len_of_lt {l : List Int} {v : Int} {m : Nat} (h : IsNum l v) (hv : v < Bp m) : l.length ≤ m := by
  rcases Nat.lt_or_ge m l.length with hlt | hge
  · have h1 := val_geB h.limbs h.trim (by intro h0; rw [h0] at hlt; exact absurd hlt (by simp))
    have h2 : Bp m ≤ Bp (l.length - 1) := pow_upB (by omega)
    rw [h.eq] at h1
    omega
  · exact hge
theorem of2_num (a : Int) (h0 : 0 ≤ a) (h1 : a < 18446744073709551616) : IsNum (of2 a) a := by
  have hl : Limbs [a % 4294967296, a / 4294967296] := Limbs.mk (by omega) (by omega) (Limbs.mk (by omega) (by omega) Limbs.nil)
  have := IsNum.cut hl
  rw [show val [a % 4294967296, a / 4294967296] = a by simp only [val]; omega] at this
  exact this
theorem IsNum.nil : IsNum [] 0 := ⟨Limbs.nil, .inl rfl, rfl⟩
theorem zeros_getD (n i : Nat) : (List.replicate n (0 : Int)).getD i 0 = 0 := by
  by_cases hi : i < n
  · rw [getD_lt _ (by simpa using hi)]; simp
  · rw [getD_ge _ (by simp; omega)]

def integer_Sub.f (k : Nat) (a0_0 : Bool) (l0_1 : List Int) (a1_0 : Bool) (l1_1 : List Int) : Option (Bool × List Int) := (integer_Neg.f a1_0 l1_1).bind fun bt885 => ((integer_Add.f k a0_0 l0_1 bt885.1 bt885.2).bind fun bt889 => (some (bt889.1, bt889.2)))
theorem integer_Sub.calls (k : Nat) (a0_0 : Bool) (A0_1 : Option Addr) (c0_1 : Nat) (l0_1 : List Int) (a1_0 : Bool) (A1_1 : Option Addr) (c1_1 : Nat) (l1_1 : List Int) (r1 : Bool) (r2 : List Int) (w : World) (hr0_1 : Kd.C (Kd.int .u32) w A0_1 l0_1.length l0_1) (hc0_1 : l0_1.length ≤ c0_1) (hr1_1 : Kd.C (Kd.int .u32) w A1_1 l1_1.length l1_1) (hc1_1 : l1_1.length ≤ c1_1) (h : integer_Sub.f k a0_0 l0_1 a1_0 l1_1 = some (r1, r2)) :
    Calls Tryd.prog 19 #[.agg #[.bool a0_0, .slice A0_1 l0_1.length c0_1], .agg #[.bool a1_0, .slice A1_1 l1_1.length c1_1]] w fun e w' => ∃ v1_ : Value, e = .returned (.agg #[.bool r1, v1_]) ∧ Kd.R (Kd.int .u32) 58 w' w.heap.size (fun _ => True) v1_ r2 ∧ Below w.heap.size w w' := by
  have hu24 := Tryd.underlying24
  have HR0_1 := zMk hr0_1
  have HC0_1 := zMk hc0_1
  clear hr0_1 hc0_1
  have HR1_1 := zMk hr1_1
  have HC1_1 := zMk hc1_1
  clear hr1_1 hc1_1
  have HB := zMk (Below.refl w.heap.size w)
  have H : ((integer_Neg.f a1_0 l1_1).bind fun bt885 => ((integer_Add.f k a0_0 l0_1 bt885.1 bt885.2).bind fun bt889 => (some (bt889.1, bt889.2)))) = some (r1, r2) := h
  clear h
  replace H := bnd H
  obtain ⟨⟨t885, t886⟩, A30, H⟩ := H
  replace H : ((integer_Add.f k a0_0 l0_1 t885 t886).bind fun bt889 => (some (bt889.1, bt889.2))) = some (r1, r2) := H
  have A3 := zMk A30
  clear A30
  replace H := bnd H
  obtain ⟨⟨t889, t890⟩, A40, H⟩ := H
  replace H : (some (t889, t890)) = some (r1, r2) := H
  have A4 := zMk A40
  clear A40
  simp only [Option.some.injEq, Prod.mk.injEq] at H
  obtain ⟨rfl, rfl⟩ := H
  go_enter Tryd.func19, Tryd.ntmps19
  try go_wp2_with (first | ((with_reducible refine gate_dst (N := 2) rfl ?_); refine box_event ?hg (N := 2) ?hd (cs := #[.bool a0_0, .slice A0_1 l0_1.length c0_1]) (t := 24) ?hr ?_; (case hd => rfl); (case hg => rfl); (case hr => first | (go_simp; done)|(go_simp; rfl)|(go_simp; rw [show ∀ x : Int, IntKind.u32.wrap (IntKind.u8.wrap x) = x % 256 from fun x => (by show (x % 256) % 4294967296 = x % 256; omega)])); intro gb882 hg w5 hbox hb; have BK882 := zMk (hbox); have GW882 := zMk ((by rw [hg]; exact (zBs (by exact uT HB.out)) : w.heap.size ≤ gb882)); have GE882 := zMk ((by rw [hg]; exact (zBs (by exact uT HB.out)) : w.heap.size ≤ gb882)); have IGE882 := ownGe GE882.out; replace HB := zMk (zBt (by exact uT HB.out) hb); clear hb hbox hg)|((with_reducible refine gate_dst (N := 3) rfl ?_); refine box_event ?hg (N := 3) ?hd (cs := #[.bool a1_0, .slice A1_1 l1_1.length c1_1]) (t := 24) ?hr ?_; (case hd => rfl); (case hg => rfl); (case hr => first | (go_simp; done)|(go_simp; rfl)|(go_simp; rw [show ∀ x : Int, IntKind.u32.wrap (IntKind.u8.wrap x) = x % 256 from fun x => (by show (x % 256) % 4294967296 = x % 256; omega)])); intro gb883 hg w6 hbox hb; have BK883 := zMk (hbox); have GW883 := zMk ((by rw [hg]; exact (zBs (by exact uT HB.out)) : w.heap.size ≤ gb883)); have GE883 := zMk ((by rw [hg]; exact (zBs (by exact uT HB.out)) : w.heap.size ≤ gb883)); have IGE883 := ownGe GE883.out; replace HB := zMk (zBt (by exact uT HB.out) hb); have NB882_883 := zMk ((by rw [hg]; exact Nat.ne_of_lt (blk_lt (g := gb882) (o := .cells #[.bool a0_0, .slice A0_1 l0_1.length c0_1] 24 (0, 0)) (by (with_reducible repeat (first |  refine zKn ?_ _|  refine zKd ?_|  refine zKa ?_ _)); exact BK882.out)) : gb882 ≠ gb883)); have NB883_882 := zMk ((by rw [hg]; exact Nat.ne_of_gt (blk_lt (g := gb882) (o := .cells #[.bool a0_0, .slice A0_1 l0_1.length c0_1] 24 (0, 0)) (by (with_reducible repeat (first |  refine zKn ?_ _|  refine zKd ?_|  refine zKa ?_ _)); exact BK882.out)) : gb883 ≠ gb882)); replace BK882 := zMk (zKb (g := gb882) (o := .cells #[.bool a0_0, .slice A0_1 l0_1.length c0_1] 24 (0, 0)) (by (with_reducible repeat (first |  refine zKn ?_ _|  refine zKd ?_|  refine zKa ?_ _)); exact BK882.out) hb); clear hb hbox hg)|((with_reducible refine gate_dst (N := 4) rfl ?_); refine box_event ?hg (N := 4) ?hd (cs := #[.bool false, .slice none 0 0]) (t := 24) ?hr ?_; (case hd => rfl); (case hg => rfl); (case hr => first | (go_simp; done)|(go_simp; rfl)|(go_simp; rw [show ∀ x : Int, IntKind.u32.wrap (IntKind.u8.wrap x) = x % 256 from fun x => (by show (x % 256) % 4294967296 = x % 256; omega)])); intro gb884 hg w7 hbox hb; have BK884 := zMk (hbox); have GW884 := zMk ((by rw [hg]; exact (zBs (by exact uT HB.out)) : w.heap.size ≤ gb884)); have GE884 := zMk ((by rw [hg]; exact (zBs (by exact uT HB.out)) : w.heap.size ≤ gb884)); have IGE884 := ownGe GE884.out; replace HB := zMk (zBt (by exact uT HB.out) hb); have NB882_884 := zMk ((by rw [hg]; exact Nat.ne_of_lt (blk_lt (g := gb882) (o := .cells #[.bool a0_0, .slice A0_1 l0_1.length c0_1] 24 (0, 0)) (by (with_reducible repeat (first |  refine zKn ?_ _|  refine zKd ?_|  refine zKa ?_ _)); exact BK882.out)) : gb882 ≠ gb884)); have NB884_882 := zMk ((by rw [hg]; exact Nat.ne_of_gt (blk_lt (g := gb882) (o := .cells #[.bool a0_0, .slice A0_1 l0_1.length c0_1] 24 (0, 0)) (by (with_reducible repeat (first |  refine zKn ?_ _|  refine zKd ?_|  refine zKa ?_ _)); exact BK882.out)) : gb884 ≠ gb882)); replace BK882 := zMk (zKb (g := gb882) (o := .cells #[.bool a0_0, .slice A0_1 l0_1.length c0_1] 24 (0, 0)) (by (with_reducible repeat (first |  refine zKn ?_ _|  refine zKd ?_|  refine zKa ?_ _)); exact BK882.out) hb); have NB883_884 := zMk ((by rw [hg]; exact Nat.ne_of_lt (blk_lt (g := gb883) (o := .cells #[.bool a1_0, .slice A1_1 l1_1.length c1_1] 24 (0, 0)) (by (with_reducible repeat (first |  refine zKn ?_ _|  refine zKd ?_|  refine zKa ?_ _)); exact BK883.out)) : gb883 ≠ gb884)); have NB884_883 := zMk ((by rw [hg]; exact Nat.ne_of_gt (blk_lt (g := gb883) (o := .cells #[.bool a1_0, .slice A1_1 l1_1.length c1_1] 24 (0, 0)) (by (with_reducible repeat (first |  refine zKn ?_ _|  refine zKd ?_|  refine zKa ?_ _)); exact BK883.out)) : gb884 ≠ gb883)); replace BK883 := zMk (zKb (g := gb883) (o := .cells #[.bool a1_0, .slice A1_1 l1_1.length c1_1] 24 (0, 0)) (by (with_reducible repeat (first |  refine zKn ?_ _|  refine zKd ?_|  refine zKa ?_ _)); exact BK883.out) hb); clear hb hbox hg))
  replace BK882 := zMk (zKd BK882.out)
  replace BK883 := zMk (zKd BK883.out)
  replace BK884 := zMk (zKd BK884.out)
  replace HB := zMk (zBd HB.out)
  refine start_ (n := 5) (S := fun w' => w'.cell? ⟨gb882, 0, none⟩ = some (.bool a0_0) ∧ w'.cell? ⟨gb882, 1, none⟩ = some (.slice A0_1 l0_1.length c0_1) ∧ w'.cell? ⟨gb883, 0, none⟩ = some (.bool a1_0) ∧ w'.cell? ⟨gb883, 1, none⟩ = some (.slice A1_1 l1_1.length c1_1)) (ds := []) #[false, false, false, false, false] (by kernel_rfl) rfl rfl ⟨(zKc BK882.out 0).trans rfl, (zKc BK882.out 1).trans rfl, (zKc BK883.out 0).trans rfl, (zKc BK883.out 1).trans rfl⟩ (fun hHeld => ?_)
  generalize w7.drew = w8 at BK882 BK883 BK884 HB hHeld ⊢
  refine take_ (i := 0) (N := some 5) (v := ?_) (a' := ?_) #[true, false, false, false, false] rfl rfl (by kernel_rfl) (fun _ _ _ h => h) (Or.inl ⟨by rfl, ?_⟩) hHeld ?_ ?_
  rotate_left
  · rintro w' ⟨s0, s1, s2, s3⟩
    go_simp
    with_reducible rfl
  rotate_left
  · simp only [Act.put, zSa, zSb, zSc, i64_w, i32_w]
    rfl
  refine take_ (i := 1) (N := some 6) (v := ?_) (a' := ?_) #[true, true, false, false, false] rfl rfl (by kernel_rfl) (fun _ _ _ h => h) (Or.inl ⟨by rfl, ?_⟩) hHeld ?_ ?_
  rotate_left
  · rintro w' ⟨s0, s1, s2, s3⟩
    go_simp
    with_reducible rfl
  rotate_left
  · simp only [Act.put, zSa, zSb, zSc, i64_w, i32_w]
    rfl
  refine one_ (i := 2) (N := some 7) #[true, true, true, false, false] rfl rfl (by kernel_rfl) (by decide) (fun K hK => ?_)
  refine goes_ Tryd.func23 (by kernel_rfl) rfl #[.agg #[.bool a1_0, .slice A1_1 l1_1.length c1_1]] (by rfl) rfl rfl (by (try simp only [zMa, zMc, zMn]); first | done | rfl | (simp only [zLd, zLt]; rfl)) ?_
  with_reducible refine (integer_Neg.calls a1_0 _ _ l1_1 t885 t886 _ ?side1 ?side2 A3.out).mono ?_
  (case side1 => repeat (first | exact (Kd.C_below HR1_1.out HB.out) | (with_reducible refine zCa ?_ _) | (with_reducible refine zCn ?_ _) | (with_reducible refine zCd ?_)))
  (case side2 => exact HC1_1.out)
  rintro e w9 ⟨v887, rfl, ho0, hb⟩
  refine ⟨_, rfl, ?_⟩
  have HO888 := zMk (zRl ho0 (zBs (by exact uT HB.out)))
  replace BK882 := zMk (zKb (g := gb882) (o := .cells #[.bool a0_0, .slice A0_1 l0_1.length c0_1] 24 (0, 0)) (by (with_reducible repeat (first | refine zKn ?_ _ | refine zKd ?_ | refine zKa ?_ _)); exact BK882.out) hb)
  replace BK883 := zMk (zKb (g := gb883) (o := .cells #[.bool a1_0, .slice A1_1 l1_1.length c1_1] 24 (0, 0)) (by (with_reducible repeat (first | refine zKn ?_ _ | refine zKd ?_ | refine zKa ?_ _)); exact BK883.out) hb)
  replace BK884 := zMk (zKb (g := gb884) (o := .cells #[.bool false, .slice none 0 0] 24 (0, 0)) (by (with_reducible repeat (first | refine zKn ?_ _ | refine zKd ?_ | refine zKa ?_ _)); exact BK884.out) hb)
  replace HB := zMk (zBt (by exact uT HB.out) hb)
  obtain ⟨Ao10, co10, eo10⟩ := zRs HO888.out
  (first |  subst eo10|  (injection eo10 with f1_ f2_ f3_; have f4_ := f1_.symm; have f5_ := f3_.symm; clear f1_ f2_ f3_; subst f4_; subst f5_))
  refine hK.out _ _ ⟨(zKc BK882.out 0).trans rfl, (zKc BK882.out 1).trans rfl, (zKc BK883.out 0).trans rfl, (zKc BK883.out 1).trans rfl⟩ (fun hHeld => ?_)
  clear hK K
  refine norm_ (a' := ?_) ?_ ?_
  rotate_left
  · show Act.put _ (some 7) _ = _
    simp only [Act.put, zSa, zSb, zSc, i64_w, i32_w]
    rfl
  refine one_ (i := 3) (N := some 8) #[true, true, true, true, false] rfl rfl (by kernel_rfl) (by decide) (fun K hK => ?_)
  refine goes_ Tryd.func17 (by kernel_rfl) rfl #[.agg #[.bool a0_0, .slice A0_1 l0_1.length c0_1], .agg #[.bool t885, .slice Ao10 t886.length co10]] (by rfl) rfl rfl (by (try simp only [zMa, zMc, zMn]); first | done | rfl | (simp only [zLd, zLt]; rfl)) ?_
  with_reducible refine (integer_Add.calls k a0_0 _ _ l0_1 t885 _ _ t886 t889 t890 _ ?side1 ?side2 ?side3 ?side4 A4.out).mono ?_
  (case side1 => repeat (first | exact (Kd.C_below HR0_1.out HB.out) | (with_reducible refine zCa ?_ _) | (with_reducible refine zCn ?_ _) | (with_reducible refine zCd ?_)))
  (case side2 => exact HC0_1.out)
  (case side3 => exact uC (zRr HO888.out).2.2)
  (case side4 => exact (zRr HO888.out).2.1)
  rintro e w11 ⟨v891, rfl, ho0, hb⟩
  refine ⟨_, rfl, ?_⟩
  have HO892 := zMk (zRl (zRw ho0 (zRt (by exact uR HO888.out))) (zBs (by exact uT HB.out)))
  replace HO888 := zMk (zRe (by exact uR HO888.out) (zRz ho0) hb)
  replace BK882 := zMk (zKb (g := gb882) (o := .cells #[.bool a0_0, .slice A0_1 l0_1.length c0_1] 24 (0, 0)) (by (with_reducible repeat (first | refine zKn ?_ _ | refine zKd ?_ | refine zKa ?_ _)); exact BK882.out) hb)
  replace BK883 := zMk (zKb (g := gb883) (o := .cells #[.bool a1_0, .slice A1_1 l1_1.length c1_1] 24 (0, 0)) (by (with_reducible repeat (first | refine zKn ?_ _ | refine zKd ?_ | refine zKa ?_ _)); exact BK883.out) hb)
  replace BK884 := zMk (zKb (g := gb884) (o := .cells #[.bool false, .slice none 0 0] 24 (0, 0)) (by (with_reducible repeat (first | refine zKn ?_ _ | refine zKd ?_ | refine zKa ?_ _)); exact BK884.out) hb)
  replace HB := zMk (zBt (by exact uT HB.out) hb)
  obtain ⟨Ao13, co13, eo13⟩ := zRs HO892.out
  (first |  subst eo13|  (injection eo13 with f1_ f2_ f3_; have f4_ := f1_.symm; have f5_ := f3_.symm; clear f1_ f2_ f3_; subst f4_; subst f5_))
  refine hK.out _ _ ⟨(zKc BK882.out 0).trans rfl, (zKc BK882.out 1).trans rfl, (zKc BK883.out 0).trans rfl, (zKc BK883.out 1).trans rfl⟩ (fun hHeld => ?_)
  clear hK K
  refine norm_ (a' := ?_) ?_ ?_
  rotate_left
  · show Act.put _ (some 8) _ = _
    simp only [Act.put, zSa, zSb, zSc, i64_w, i32_w]
    rfl
  refine one_ (i := 4) (N := none) #[true, true, true, true, true] rfl rfl (by kernel_rfl) (by decide) (fun K hK => ?_)
  have hs12 : w11.cell? ⟨gb884, 0, none⟩ = some (.bool false) := (zKc BK884.out 0).trans rfl
  have hfs12 := zKf BK884.out 0
  have hns12_0 := NB882_884.out
  have hns12_1 := NB883_884.out
  have hms12_0 := NB884_882.out
  have hms12_1 := NB884_883.out
  have hs14 : w11.cell? ⟨gb884, 1, none⟩ = some (.slice none 0 0) := (zKc BK884.out 1).trans rfl
  have hfs14 := zKf BK884.out 1
  have hns14_0 := NB882_884.out
  have hns14_1 := NB883_884.out
  have hms14_0 := NB884_882.out
  have hms14_1 := NB884_883.out
  refine skip_ (w1 := ?_) (by rfl) rfl ?_ ?_
  rotate_left
  · go_simp
    rfl
  refine hK.out _ _ ⟨((cell_far (p := ⟨gb884, _, none⟩) NB882_884.out _).trans (((cell_far (p := ⟨gb884, _, none⟩) NB882_884.out _).trans (hHeld.1)))), ((cell_far (p := ⟨gb884, _, none⟩) NB882_884.out _).trans (((cell_far (p := ⟨gb884, _, none⟩) NB882_884.out _).trans (hHeld.2.1)))), ((cell_far (p := ⟨gb884, _, none⟩) NB883_884.out _).trans (((cell_far (p := ⟨gb884, _, none⟩) NB883_884.out _).trans (hHeld.2.2.1)))), ((cell_far (p := ⟨gb884, _, none⟩) NB883_884.out _).trans (((cell_far (p := ⟨gb884, _, none⟩) NB883_884.out _).trans (hHeld.2.2.2))))⟩ (fun hHeld => ?_)
  clear hK K
  refine done_ (by kernel_rfl) ?_
  try go_wp2
  refine bodyPost_ret (results_cell_row rfl _ _ gb884 24 #[.bool t889, .slice Ao13 t890.length co13] (0, 0) _ rfl (by (with_reducible repeat (first | refine zKn ?_ _ | refine zKd ?_ | refine zKa ?_ _)); refine blk_put (cs := #[.bool t889, .slice none 0 0]) ?_ 1 _ rfl; (with_reducible repeat (first | refine zKn ?_ _ | refine zKd ?_ | refine zKa ?_ _)); refine blk_put (cs := #[.bool false, .slice none 0 0]) ?_ 0 _ rfl; (with_reducible repeat (first | refine zKn ?_ _ | refine zKd ?_ | refine zKa ?_ _)); exact BK884.out) Tryd.underlying24 rfl (by kernel_rfl)) rfl ?_
  exact ⟨_, by first | rfl | (simp [errW_none, errW_some] <;> rfl) | (simp [*, errW_none, errW_some] <;> rfl), by (with_reducible repeat (first | apply zRa | apply zRn | apply zRd)); exact zRm (Kd.R_far (p := ⟨gb884, 1, none⟩) (Kd.R_far (p := ⟨gb884, 0, none⟩) (Kd.R_types HO892.out BK884.out (by decide)) (fun _ hk => hk.2) (.bool t889)) (fun _ hk => hk.2) (.slice Ao13 t890.length co13)) (fun _ hk => trivial), by exact uT HB.out⟩

end Go.Proofs.YtnjmnicgknggfaaDoor.D
