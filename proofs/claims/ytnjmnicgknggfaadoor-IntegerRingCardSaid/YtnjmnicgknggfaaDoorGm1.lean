/- Lemmas for the statement: the walks of the functions that it reaches, and plain laws. -/
import Derived.Test.YtnjmnicgknggfaaDoorVMore
import Derived.Test.YtnjmnicgknggfaaDoorVN
import Derived.Test.YtnjmnicgknggfaaDoorProg
import Derived.Below
import Derived.Deep.Draws
import Derived.Deep.AppendLies
import Derived.Maps.AppendAt
import Derived.OwnWalk
import Derived.Laws.BytesArg
import Derived.Laws.MakeOwn
import Derived.Laws.OwnMore
import Derived.Deep.OwnRows
import Derived.Tactics
import Derived.Lib.ConvBytes
import Derived.Laws.Slices
import Derived.WalkKit
import Derived.KernelRfl
import Derived.RowKit3
import Derived.Deep.LoopGhost
import Derived.Deep.QuietTactic
import Derived.BigQuiet
import Derived.WideLaws
import Derived.Deep.DeepCutAuto
import Derived.Deep.CutBlock
import Derived.Deep.RegionHeld3
import Derived.Laws.Rows
import Derived.Lib.AppendStr
import Derived.ArgAppend
import Derived.Laws.IdiomCopy
import Derived.OrdersHeld
import Derived.Laws.BitsLemmas
import Derived.RowKit
import Derived.WalkSpells
import Derived.RangeFuncNested
import Derived.RangeFuncBound
import Derived.RangeFuncCalls
import Derived.RangeFuncLeaves
import Derived.Shelf.Abstract
import Derived.Shelf.RegionOpen
import Derived.OwnWalkIn
import Derived.TacticsInMore
import Derived.LoopNIn
import Derived.LoopIn
import Derived.StillTailTactics
import Derived.OrdersIn
import Derived.TacticsIn
import Derived.Deep.RegionWith
import Derived.Test.YtnjmnicgknggfaaDoorVWords
import Derived.Test.YtnjmnicgknggfaaDoorVLast
import Derived.Test.YtnjmnicgknggfaaDoorVTab
import Derived.Test.YtnjmnicgknggfaaDoorVQPut
import Derived.Test.YtnjmnicgknggfaaDoorVApart
import Derived.Test.YtnjmnicgknggfaaDoorVArr
import Derived.Test.YtnjmnicgknggfaaDoorVZeros
import Derived.Test.YtnjmnicgknggfaaDoorVFoot
import Derived.Test.YtnjmnicgknggfaaDoorVKept
import Derived.Test.YtnjmnicgknggfaaDoorVShare
import Derived.Test.YtnjmnicgknggfaaDoorVRepsOne
import Derived.Test.YtnjmnicgknggfaaDoorVGuard
import Derived.Test.YtnjmnicgknggfaaDoorVNEv
import Derived.OpenShut
set_option linter.unusedVariables false
set_option linter.unusedSimpArgs false
set_option maxHeartbeats 8000000
set_option maxRecDepth 100000
namespace Go.Proofs.YtnjmnicgknggfaaDoorW.PrintWords
open Go Go.RowKit Go.Proofs.YtnjmnicgknggfaaDoorW.PrintWords Go.Proofs.YtnjmnicgknggfaaDoorW.PrintLast Go.Proofs.YtnjmnicgknggfaaDoorW.PrintMore
attribute [local go_sem] max2_int min2_int max_two min_two max_three min_three max_four min_four
open Go.Proofs.YtnjmnicgknggfaaDoorW.PrintWords.Kd renaming R_alloc → zRa, R_drewN → zRn, R_drew → zRd, V_alloc → zVa, V_drewN → zVn, V_drew → zVd, V_below → zVb, C_alloc → zCa, C_drewN → zCn, C_drew → zCd, R_mono → zRm, V_mono → zVm, at_int → zAi, R_elder' → zRe, R_lower → zRl, R_new' → zRw, R_lt → zRt, R_below → zRb, R_base → zRz, R_reads' → zRr, R_slice → zRs, V_elder' → zVe, V_lower → zVl, V_slice → zVs, V_reads' → zVr
open Go.Proofs.YtnjmnicgknggfaaDoorW.PrintWords renaming pw_below_drewN → zBn, below_alloc → zBa, below_drew1 → zBd, below_size → zBs, below_step → zBt, blk_drewN → zKn, blk_drew → zKd, blk_alloc → zKa, blk_below → zKb, blk_cell → zKc, blk_frozen → zKf
open List renaming setIfInBounds_toArray → zSa, set_cons_zero → zSb, set_cons_succ → zSc, length_drop → zLd, length_take → zLt, map_toArray → zMa, map_cons → zMc, map_nil → zMn, length_cons → zLc, length_nil → zLn
open Go.Proofs.YtnjmnicgknggfaaDoorW.PrintWords.Aside0 renaming mk → zMk
open Option renaming bind_eq_some_iff → zBi, bind_some → zOb
open Option.some renaming inj → zOi
open Int renaming toNat_natCast → zTn
structure Up (W W1 : World) : Prop where
  b : Below W.heap.size W W1
instance upRefl (W : World) : Nonempty (Up W W) := ⟨⟨Below.refl _ _⟩⟩
instance upAlloc (W W1 : World) (o : Obj) [h : Nonempty (Up W W1)] : Nonempty (Up W (W1.alloc o)) := ⟨⟨zBa (h.elim fun u => u.b) o⟩⟩
instance upDrew (W W1 : World) [h : Nonempty (Up W W1)] : Nonempty (Up W W1.drew) := ⟨⟨below_drew (h.elim fun u => u.b)⟩⟩
instance upDrewN (W W1 : World) (n : Nat) [h : Nonempty (Up W W1)] : Nonempty (Up W (W1.drewN n)) := ⟨⟨zBn (h.elim fun u => u.b) n⟩⟩
structure Own (w : World) (g : Nat) : Prop where
  h : w.heap.size ≤ g
theorem ownGe {w : World} {g : Nat} (h : w.heap.size ≤ g) : Nonempty (Own w g) := ⟨⟨h⟩⟩
structure UpB (w W W1 : World) : Prop where
  f : Below w.heap.size w W → Below w.heap.size w W1
instance upbRefl (w W : World) : Nonempty (UpB w W W) := ⟨⟨id⟩⟩
instance upbAlloc (w W W1 : World) (o : Obj) [h : Nonempty (UpB w W W1)] : Nonempty (UpB w W (W1.alloc o)) := ⟨⟨fun x => zBa (h.elim fun u => u.f x) o⟩⟩
instance upbDrew (w W W1 : World) [h : Nonempty (UpB w W W1)] : Nonempty (UpB w W W1.drew) := ⟨⟨fun x => below_drew (h.elim fun u => u.f x)⟩⟩
instance upbDrewN (w W W1 : World) (n : Nat) [h : Nonempty (UpB w W W1)] : Nonempty (UpB w W (W1.drewN n)) := ⟨⟨fun x => zBn (h.elim fun u => u.f x) n⟩⟩
instance upbSet (w W W1 : World) (g j : Nat) (v : Value) [h : Nonempty (UpB w W W1)] [g0 : Nonempty (Own w g)] : Nonempty (UpB w W (W1.setCell ⟨g, j, none⟩ v)) := ⟨⟨fun x => below_set (h.elim fun u => u.f x) (g0.elim fun u => u.h)⟩⟩
theorem uT {w W W1 : World} (h : Below w.heap.size w W) [u : Nonempty (UpB w W W1)] : Below w.heap.size w W1 := (u.elim fun u => u.f) h
theorem uR {α : Type} {d : Kd α} {e base : Nat} {ok : Nat → Prop} {v : Value} {xs : List α} {W W1 : World} (h : d.R e W base ok v xs) [u : Nonempty (Up W W1)] : d.R e W1 base ok v xs := zRb h (u.elim fun u => u.b)
theorem uV {α : Type} {d : Kd α} {e base : Nat} {ok : Nat → Prop} {v : Value} {xs : List α} {W W1 : World} (h : Kd.V d e W base ok v xs) [u : Nonempty (Up W W1)] : Kd.V d e W1 base ok v xs := zVb h (u.elim fun u => u.b)
theorem uN {α : Type} {d : Kd α} {e base : Nat} {ok : Nat → Prop} {v : Value} {xs : List α} {W W1 : World} (h : Kd.N d e W base ok v xs) [u : Nonempty (Up W W1)] : Kd.N d e W1 base ok v xs := Kd.N_below h (u.elim fun u => u.b)
theorem uC {α : Type} {d : Kd α} {A : Option Addr} {n : Nat} {xs : List α} {W W1 : World} (h : d.C W A n xs) [u : Nonempty (Up W W1)] : d.C W1 A n xs := Kd.C_below h (u.elim fun u => u.b)
theorem bnd {α β : Type} {x : Option α} {f : α → Option β} {b : β} (h : x.bind f = some b) : ∃ a, x = some a ∧ f a = some b := Option.bind_eq_some_iff.mp h
theorem bsm {α β : Type} {x : α} {f : α → Option β} {b : Option β} (h : (some x).bind f = b) : f x = b := h
end Go.Proofs.YtnjmnicgknggfaaDoorW.PrintWords
namespace Go.Proofs.YtnjmnicgknggfaaDoor.G
open Go Go.RowKit Go.Proofs.YtnjmnicgknggfaaDoorW.PrintWords Go.Proofs.YtnjmnicgknggfaaDoorW.PrintLast Go.Proofs.YtnjmnicgknggfaaDoorW.PrintMore
attribute [local go_sem] max2_int min2_int max_two min_two max_three min_three max_four min_four
open Go.Proofs.YtnjmnicgknggfaaDoorW.PrintWords.Kd renaming R_alloc → zRa, R_drewN → zRn, R_drew → zRd, V_alloc → zVa, V_drewN → zVn, V_drew → zVd, V_below → zVb, C_alloc → zCa, C_drewN → zCn, C_drew → zCd, R_mono → zRm, V_mono → zVm, at_int → zAi, R_elder' → zRe, R_lower → zRl, R_new' → zRw, R_lt → zRt, R_below → zRb, R_base → zRz, R_reads' → zRr, R_slice → zRs, V_elder' → zVe, V_lower → zVl, V_slice → zVs, V_reads' → zVr
open Go.Proofs.YtnjmnicgknggfaaDoorW.PrintWords renaming pw_below_drewN → zBn, below_alloc → zBa, below_drew1 → zBd, below_size → zBs, below_step → zBt, blk_drewN → zKn, blk_drew → zKd, blk_alloc → zKa, blk_below → zKb, blk_cell → zKc, blk_frozen → zKf
open List renaming setIfInBounds_toArray → zSa, set_cons_zero → zSb, set_cons_succ → zSc, length_drop → zLd, length_take → zLt, map_toArray → zMa, map_cons → zMc, map_nil → zMn, length_cons → zLc, length_nil → zLn
open Go.Proofs.YtnjmnicgknggfaaDoorW.PrintWords.Aside0 renaming mk → zMk
open Option renaming bind_eq_some_iff → zBi, bind_some → zOb
open Option.some renaming inj → zOi
open Int renaming toNat_natCast → zTn



def errW : Option Int → Value
  | none => .nilIface
  | some c => .iface 0 (.int .i64 c)
theorem errW_none : errW none = .nilIface := rfl
theorem errW_some (c : Int) : errW (some c) = .iface 0 (.int .i64 c) := rfl

theorem info5 : (Tryd.prog.info? 5).map (fun i => (i.zero, i.size, i.bytes)) = some (some (.int .u8 0), 1, 1) := by kernel_rfl
theorem info9 : (Tryd.prog.info? 9).map (fun i => (i.zero, i.size, i.bytes)) = some (some (.string ⟨#[]⟩), 1, 16) := by kernel_rfl
theorem info58 : (Tryd.prog.info? 58).map (fun i => (i.zero, i.size, i.bytes)) = some (some (.int .u32 0), 1, 4) := by kernel_rfl
-- the values' own types
def rd_L1 (xs : List (List Int)) (i : Int) : (List Int) := xs.getD i.toNat ([] : List Int)
theorem at_L1 {w : World} {A : Option Addr} {n : Nat} {xs : List (List Int)} (h : Kd.C (Kd.slice 58 (Kd.int .u32)) w A n xs) (i : Int) (h0 : 0 ≤ i) (h1 : i < n) : ∃ ad A0 c0, A = some ad ∧ w.cell? (ad.add i.toNat) = some (.slice A0 (rd_L1 xs i).length c0) ∧ (rd_L1 xs i).length ≤ c0 ∧ (Kd.int .u32).C w A0 (rd_L1 xs i).length (rd_L1 xs i) := by
  obtain ⟨ad, c, e, _, hK, hc0⟩ := Kd.C_get h ([] : List Int) i h0 h1
  have hc : ∀ j u, c[j]? = some u → w.cell? (ad.add (i.toNat * 1 + j)) = some u := hc0
  obtain ⟨A0, c0, rfl, l0, g0⟩ := hK
  exact ⟨ad, A0, c0, e, by have hq := hc 0 _ rfl; rwa [Nat.mul_one, Nat.add_zero] at hq, l0, g0⟩


def r1_Norm.l0 : Nat → List Int → Int → Option (List Int)
  | 0, _, _ => none
  | k + 1, x0, x3 => if x3 > 0 then (if 0 ≤ (wrap64 (x3 - 1)) then (if (wrap64 (x3 - 1)) < (x0.length : Int) then (if (rd x0 (wrap64 (x3 - 1))) = 0 then (r1_Norm.l0 k x0 (wrap64 (x3 - 1))) else ((some (([] : List Int) : List Int)).bind fun y427 => (if 0 ≤ x3 then (if x3 ≤ (x0.length : Int) then (if y427.length + (x0.take (x3 : Int).toNat).length < 35184372088832 then (some (y427 ++ (x0.take (x3 : Int).toNat))) else (none)) else (none)) else (none)))) else (none)) else (none)) else ((some (([] : List Int) : List Int)).bind fun y434 => (if 0 ≤ x3 then (if x3 ≤ (x0.length : Int) then (if y434.length + (x0.take (x3 : Int).toNat).length < 35184372088832 then (some (y434 ++ (x0.take (x3 : Int).toNat))) else (none)) else (none)) else (none)))
def r1_Norm.f (k : Nat) (l0 : List Int) : Option (List Int) := r1_Norm.l0 k l0 (l0.length : Int)
theorem r1_Norm.calls (k : Nat) (A0 : Option Addr) (c0 : Nat) (l0 : List Int) (r : List Int) (w : World) (hr0 : Kd.C (Kd.int .u32) w A0 l0.length l0) (hc0 : l0.length ≤ c0) (h : r1_Norm.f k l0 = some r) :
    Calls Tryd.prog 63 #[.slice A0 l0.length c0] w fun e w' => ∃ v0_ : Value, e = .returned (v0_) ∧ Kd.R (Kd.int .u32) 58 w' w.heap.size (fun _ => True) v0_ r ∧ Below w.heap.size w w' := by
  have HR0 := zMk hr0
  have HC0 := zMk hc0
  clear hr0 hc0
  have HB := zMk (Below.refl w.heap.size w)
  have H : (r1_Norm.l0 k l0 (l0.length : Int)) = some r := h
  clear h
  have H' := zMk H
  clear H
  go_enter Tryd.func63, Tryd.ntmps63
  go_wp2
  go_loopg [3] k (fun kq v3 w' => ∃ (x3_1 : Int), v3 = .int .i64 x3_1 ∧ Aside0 (r1_Norm.l0 kq l0 x3_1 = some r) ∧ Aside0 (kq ≤ k) ∧ Aside0 (Below w.heap.size w w'))
  case atStart => exact ⟨((l0.length : Int)), (by first | rfl | (simp; done) | (simp [*]; done)), H', ⟨Nat.le_refl _⟩, ⟨by exact uT HB.out⟩⟩
  clear H'
  obtain ⟨x3_1, rfl, HA, HK1, HB⟩ := hrel
  rcases gk with _ | k1
  · exact absurd HA.out (by simp [r1_Norm.l0])
  have H := HA.out
  clear HA
  simp only [r1_Norm.l0] at H
  by_cases c2 : x3_1 > 0
  · rw [if_pos c2] at H
    have c2b0 : decide (0 < x3_1) = true := decide_eq_true c2
    clear c2
    obtain ⟨ji3, hji3⟩ : ∃ j_ : Int, (wrap64 (x3_1 - 1)) = j_ := ⟨_, rfl⟩
    replace H : (if 0 ≤ (ji3) then (if (ji3) < (l0.length : Int) then (if (rd l0 (ji3)) = 0 then (r1_Norm.l0 k1 l0 ji3) else ((some (([] : List Int) : List Int)).bind fun y427 => (if 0 ≤ x3_1 then (if x3_1 ≤ (l0.length : Int) then (if y427.length + (l0.take (x3_1 : Int).toNat).length < 35184372088832 then (some (y427 ++ (l0.take (x3_1 : Int).toNat))) else (none)) else (none)) else (none)))) else (none)) else (none)) = some r := by first | (rw [hji3] at H; exact H) | (simp only [hji3] at H ⊢; exact H)
    have hji3w : (IntKind.i64.wrap (x3_1 - 1)) = ji3 := (i64_w _).trans hji3
    by_cases c4 : 0 ≤ (ji3)
    rotate_left
    · rw [if_neg c4] at H; exact absurd H (by simp)
    rw [if_pos c4] at H
    have c4b0 : decide (0 ≤ (ji3)) = true := decide_eq_true c4
    clear c4
    by_cases c5 : (ji3) < (l0.length : Int)
    rotate_left
    · rw [if_neg c5] at H; exact absurd H (by simp)
    rw [if_pos c5] at H
    have c5b0 : decide ((ji3) < (l0.length : Int)) = true := decide_eq_true c5
    clear c5
    by_cases c6 : (rd l0 (ji3)) = 0
    · rw [if_pos c6] at H
      have c6b0 : ((rd l0 (ji3)) == 0) = true := beq_iff_eq.mpr c6
      have c6b1 : ((rd l0 (ji3)) != 0) = false := bne_eq_false_iff_eq.mpr c6
      clear c6
      have H' := zMk H
      clear H
      have p426 : 0 ≤ ((ji3) : Int) := of_decide_eq_true (by assumption)
      have q426 : (ji3) < (l0.length : Int) := of_decide_eq_true (by assumption)
      obtain ⟨ad426, e426, hx426_0⟩ := zAi HR0.out (ji3) p426 q426
      cases e426
      replace hx426_0 := (HB.out.cell (World.block_lt_of_cell? w _ hx426_0)).trans hx426_0
      replace p426 := eq_true p426
      replace q426 := eq_true q426
      go_wp2
      go_roundg k1
      case measure => have := HK1.out; omega
      case rel => exact ⟨(ji3), (by first | rfl | (simp; done) | (simp only [← hji3] <;> (first | rfl | simp)) | (simp [*]; done)), H', ⟨by have := HK1.out; omega⟩, ⟨by exact uT HB.out⟩⟩
    · rw [if_neg c6] at H
      have c6b0 : ((rd l0 (ji3)) == 0) = false := beq_eq_false_iff_ne.mpr c6
      have c6b1 : ((rd l0 (ji3)) != 0) = true := bne_iff_ne.mpr c6
      obtain ⟨y427, hy427⟩ : ∃ y_ : List Int, y_ = (([] : List Int)) := ⟨_, rfl⟩
      replace H : (if 0 ≤ x3_1 then (if x3_1 ≤ (l0.length : Int) then (if y427.length + (l0.take (x3_1 : Int).toNat).length < 35184372088832 then (some (y427 ++ (l0.take (x3_1 : Int).toNat))) else (none)) else (none)) else (none)) = some r := by first | (rw [hy427]; with_reducible exact H) | (have H2_ := bsm H; first | (rw [hy427]; with_reducible exact H2_) | with_reducible exact H2_) | with_reducible exact H | (rw [hy427]; exact H) | exact H
      have Ny427 := zMk hy427
      clear hy427
      by_cases c7 : 0 ≤ x3_1
      rotate_left
      · rw [if_neg c7] at H; exact absurd H (by simp)
      rw [if_pos c7] at H
      have c7b0 := eq_true c7
      have c7b1 : decide (0 ≤ x3_1) = true := decide_eq_true c7
      clear c7
      by_cases c8 : x3_1 ≤ (l0.length : Int)
      rotate_left
      · rw [if_neg c8] at H; exact absurd H (by simp)
      rw [if_pos c8] at H
      have c8b0 := eq_true c8
      have c8b1 : decide (x3_1 ≤ (l0.length : Int)) = true := decide_eq_true c8
      clear c8
      by_cases c9 : y427.length + (l0.take (x3_1 : Int).toNat).length < 35184372088832
      rotate_left
      · rw [if_neg c9] at H; exact absurd H (by simp)
      rw [if_pos c9] at H
      have LMc9 := zMk c9
      clear c9
      obtain ⟨y431, hy431⟩ : ∃ y_ : List Int, y_ = (y427 ++ (l0.take (x3_1 : Int).toNat)) := ⟨_, rfl⟩
      replace H : (some y431) = some r := by first | (rw [hy431]; with_reducible exact H) | (have H2_ := bsm H; first | (rw [hy431]; with_reducible exact H2_) | with_reducible exact H2_) | with_reducible exact H | (rw [hy431]; exact H) | exact H
      have Ny431 := zMk hy431
      clear hy431
      obtain rfl := zOi H
      have p426 : 0 ≤ ((ji3) : Int) := of_decide_eq_true (by assumption)
      have q426 : (ji3) < (l0.length : Int) := of_decide_eq_true (by assumption)
      obtain ⟨ad426, e426, hx426_0⟩ := zAi HR0.out (ji3) p426 q426
      cases e426
      replace hx426_0 := (HB.out.cell (World.block_lt_of_cell? w _ hx426_0)).trans hx426_0
      replace p426 := eq_true p426
      replace q426 := eq_true q426
      go_wp2_with (first | ((with_reducible refine gate_dst (N := 18) rfl ?_); refine Kd.R_lit (Kd.int .u32) _ 58 ?hg (N := 18) ?hd (xs := ([] : List Int)) (inner := []) (ok := fun _ => True) (okp := fun _ => True) ?hr ?hp (fun _ hk => hk) trivial (Below.refl _ _) (Nat.le_refl _) (by simp) ?_; (case hd => rfl); (case hg => rfl); (case hr => first | (go_simp; done)|(go_simp; rfl)|(go_simp; rw [show ∀ x : Int, IntKind.u32.wrap (IntKind.u8.wrap x) = x % 256 from fun x => (by show (x % 256) % 4294967296 = x % 256; omega)])); (case hp => exact (Reps.none _ _)); intro v428 w10 ho11 hb hg_ hnew_; clear hg_ hnew_; (first |  rw [← Ny427.out] at ho11|  (simp only [Int.reduceToNat] at ho11; rw [← Ny427.out] at ho11)); have HO429 := zMk (zRl ho11 (zBs (by exact uT HB.out))); replace HB := zMk (zBt (by exact uT HB.out) hb); clear hb ho11; obtain ⟨i012, hi012, _, hsz12, _⟩ := info_parts info58; obtain ⟨hcut12, hA12, hC12⟩ := print_take_of (P := Tryd.prog) (Value.int .u32) 0 22 58 .i64 Tryd.underlying22 hi012 hsz12 (some ad426) c0 l0 x3_1 (of_decide_eq_true (by first | (with_reducible assumption)|  assumption)) (of_decide_eq_true (by first | (with_reducible assumption)|  assumption)) HC0.out; have HR430 := zMk (Kd.C_of_reads (h1 := fun _ => rfl) (hA12 _ (Kd.reads_of_C HR0.out))); have HC430 := zMk hC12; clear hA12 hC12 hi012 hsz12)|((with_reducible refine gate_builtin (b := .append) (xs := #[.tmp 18, .tmp 21]) rfl ?_); at_builtin; refine Kd.R_append_rows (Kd.int .u32) (w0 := w) w.heap.size rfl (.tmp 18) (.tmp 21) 22 58 (.int .u32 0) 4 rfl Tryd.underlying22 info58 rfl (by decide) (by omega) v428 y427 (l0.take (x3_1 : Int).toNat) _ _ _ (fun _ => True) (fun _ => False) rfl rfl ?aO ?aR (fun _ _ h => h) (fun _ h => h.elim) ?aF ?aB ?aS ?aL ?_; (case aR => first | ((conv => arg 5; rw [← show (l0.take (x3_1 : Int).toNat).length = x3_1.toNat from (by rw [zLt]; have h_ : (x3_1 : Int) ≤ (l0.length : Int) := of_decide_eq_true (by first | (with_reducible assumption)|  assumption); omega)]); repeat (first |  exact (Kd.C_below HR430.out HB.out)|(with_reducible refine zCa ?_ _)|(with_reducible refine zCn ?_ _)|(with_reducible refine zCd ?_)))|(rw [← show (l0.take (x3_1 : Int).toNat).length = x3_1.toNat from (by rw [zLt]; have h_ : (x3_1 : Int) ≤ (l0.length : Int) := of_decide_eq_true (by first | (with_reducible assumption)|  assumption); omega)]; repeat (first |  exact (Kd.C_below HR430.out HB.out)|(with_reducible refine zCa ?_ _)|(with_reducible refine zCn ?_ _)|(with_reducible refine zCd ?_)))|(repeat (first |  exact (Kd.C_below HR430.out HB.out)|(with_reducible refine zCa ?_ _)|(with_reducible refine zCn ?_ _)|(with_reducible refine zCd ?_)))); (case aB => exact (by exact uT HB.out)); (case aF => exact (fun _ _ => trivial)); (case aO => exact (by exact uR HO429.out)); (case aS => exact (zBs (by exact uT HB.out))); (case aL => have := LMc9.out; have hlx_ := (show (l0.take (x3_1 : Int).toNat).length = x3_1.toNat from (by rw [zLt]; have h_ : (x3_1 : Int) ≤ (l0.length : Int) := of_decide_eq_true (by first | (with_reducible assumption)|  assumption); omega)); omega); intro v432 w13 ho hb hg hat; rw [← Ny431.out] at ho; replace HB := zMk (hb); have HO433 := zMk (ho); clear HO429 ho hb hg hat))
      go_ret
      exact ⟨_, by first | rfl | (simp [errW_none, errW_some] <;> rfl) | (simp only [← hji3]; first | rfl | (simp [errW_none, errW_some] <;> rfl)) | (simp [*, errW_none, errW_some] <;> rfl), by exact uR HO433.out, by exact uT HB.out⟩
  · rw [if_neg c2] at H
    have c2b0 : decide (0 < x3_1) = false := decide_eq_false c2
    clear c2
    obtain ⟨y434, hy434⟩ : ∃ y_ : List Int, y_ = (([] : List Int)) := ⟨_, rfl⟩
    replace H : (if 0 ≤ x3_1 then (if x3_1 ≤ (l0.length : Int) then (if y434.length + (l0.take (x3_1 : Int).toNat).length < 35184372088832 then (some (y434 ++ (l0.take (x3_1 : Int).toNat))) else (none)) else (none)) else (none)) = some r := by first | (rw [hy434]; with_reducible exact H) | (have H2_ := bsm H; first | (rw [hy434]; with_reducible exact H2_) | with_reducible exact H2_) | with_reducible exact H | (rw [hy434]; exact H) | exact H
    have Ny434 := zMk hy434
    clear hy434
    by_cases c14 : 0 ≤ x3_1
    · rw [if_pos c14] at H
      have c14b0 := eq_true c14
      have c14b1 : decide (0 ≤ x3_1) = true := decide_eq_true c14
      clear c14
      by_cases c15 : x3_1 ≤ (l0.length : Int)
      rotate_left
      · rw [if_neg c15] at H; exact absurd H (by simp)
      rw [if_pos c15] at H
      have c15b0 := eq_true c15
      have c15b1 : decide (x3_1 ≤ (l0.length : Int)) = true := decide_eq_true c15
      clear c15
      by_cases c16 : y434.length + (l0.take (x3_1 : Int).toNat).length < 35184372088832
      rotate_left
      · rw [if_neg c16] at H; exact absurd H (by simp)
      rw [if_pos c16] at H
      have LMc16 := zMk c16
      clear c16
      obtain ⟨y438, hy438⟩ : ∃ y_ : List Int, y_ = (y434 ++ (l0.take (x3_1 : Int).toNat)) := ⟨_, rfl⟩
      replace H : (some y438) = some r := by first | (rw [hy438]; with_reducible exact H) | (have H2_ := bsm H; first | (rw [hy438]; with_reducible exact H2_) | with_reducible exact H2_) | with_reducible exact H | (rw [hy438]; exact H) | exact H
      have Ny438 := zMk hy438
      clear hy438
      obtain rfl := zOi H
      go_wp2_with (first | ((with_reducible refine gate_dst (N := 18) rfl ?_); refine Kd.R_lit (Kd.int .u32) _ 58 ?hg (N := 18) ?hd (xs := ([] : List Int)) (inner := []) (ok := fun _ => True) (okp := fun _ => True) ?hr ?hp (fun _ hk => hk) trivial (Below.refl _ _) (Nat.le_refl _) (by simp) ?_; (case hd => rfl); (case hg => rfl); (case hr => first | (go_simp; done)|(go_simp; rfl)|(go_simp; rw [show ∀ x : Int, IntKind.u32.wrap (IntKind.u8.wrap x) = x % 256 from fun x => (by show (x % 256) % 4294967296 = x % 256; omega)])); (case hp => exact (Reps.none _ _)); intro v435 w17 ho18 hb hg_ hnew_; clear hg_ hnew_; (first |  rw [← Ny434.out] at ho18|  (simp only [Int.reduceToNat] at ho18; rw [← Ny434.out] at ho18)); have HO436 := zMk (zRl ho18 (zBs (by exact uT HB.out))); replace HB := zMk (zBt (by exact uT HB.out) hb); clear hb ho18; obtain ⟨i019, hi019, _, hsz19, _⟩ := info_parts info58; obtain ⟨hcut19, hA19, hC19⟩ := print_take_of (P := Tryd.prog) (Value.int .u32) 0 22 58 .i64 Tryd.underlying22 hi019 hsz19 A0 c0 l0 x3_1 (of_decide_eq_true (by first | (with_reducible assumption)|  assumption)) (of_decide_eq_true (by first | (with_reducible assumption)|  assumption)) HC0.out; have HR437 := zMk (Kd.C_of_reads (h1 := fun _ => rfl) (hA19 _ (Kd.reads_of_C HR0.out))); have HC437 := zMk hC19; clear hA19 hC19 hi019 hsz19)|((with_reducible refine gate_builtin (b := .append) (xs := #[.tmp 18, .tmp 21]) rfl ?_); at_builtin; refine Kd.R_append_rows (Kd.int .u32) (w0 := w) w.heap.size rfl (.tmp 18) (.tmp 21) 22 58 (.int .u32 0) 4 rfl Tryd.underlying22 info58 rfl (by decide) (by omega) v435 y434 (l0.take (x3_1 : Int).toNat) _ _ _ (fun _ => True) (fun _ => False) rfl rfl ?aO ?aR (fun _ _ h => h) (fun _ h => h.elim) ?aF ?aB ?aS ?aL ?_; (case aR => first | ((conv => arg 5; rw [← show (l0.take (x3_1 : Int).toNat).length = x3_1.toNat from (by rw [zLt]; have h_ : (x3_1 : Int) ≤ (l0.length : Int) := of_decide_eq_true (by first | (with_reducible assumption)|  assumption); omega)]); repeat (first |  exact (Kd.C_below HR437.out HB.out)|(with_reducible refine zCa ?_ _)|(with_reducible refine zCn ?_ _)|(with_reducible refine zCd ?_)))|(rw [← show (l0.take (x3_1 : Int).toNat).length = x3_1.toNat from (by rw [zLt]; have h_ : (x3_1 : Int) ≤ (l0.length : Int) := of_decide_eq_true (by first | (with_reducible assumption)|  assumption); omega)]; repeat (first |  exact (Kd.C_below HR437.out HB.out)|(with_reducible refine zCa ?_ _)|(with_reducible refine zCn ?_ _)|(with_reducible refine zCd ?_)))|(repeat (first |  exact (Kd.C_below HR437.out HB.out)|(with_reducible refine zCa ?_ _)|(with_reducible refine zCn ?_ _)|(with_reducible refine zCd ?_)))); (case aB => exact (by exact uT HB.out)); (case aF => exact (fun _ _ => trivial)); (case aO => exact (by exact uR HO436.out)); (case aS => exact (zBs (by exact uT HB.out))); (case aL => have := LMc16.out; have hlx_ := (show (l0.take (x3_1 : Int).toNat).length = x3_1.toNat from (by rw [zLt]; have h_ : (x3_1 : Int) ≤ (l0.length : Int) := of_decide_eq_true (by first | (with_reducible assumption)|  assumption); omega)); omega); intro v439 w20 ho hb hg hat; rw [← Ny438.out] at ho; replace HB := zMk (hb); have HO440 := zMk (ho); clear HO436 ho hb hg hat))
      go_ret
      exact ⟨_, by first | rfl | (simp [errW_none, errW_some] <;> rfl) | (simp [*, errW_none, errW_some] <;> rfl), by exact uR HO440.out, by exact uT HB.out⟩
    · rw [if_neg c14] at H
      exact absurd H (by simp)



def cutLen (l : List Int) : Nat → Nat
  | 0 => 0
  | n + 1 => if l.getD n 0 = 0 then cutLen l n else n + 1
theorem cutLen_le (l : List Int) : ∀ n, cutLen l n ≤ n
  | 0 => Nat.le_refl _
  | n + 1 => by
    unfold cutLen
    split
    · exact Nat.le_succ_of_le (cutLen_le l n)
    · exact Nat.le_refl _
def n_cut.f (l0 : List Int) : Option (List Int) := some (l0.take (cutLen l0 l0.length))
theorem n_cut.exact (A0 : Option Addr) (c0 : Nat) (l0 : List Int) (w : World) (hr0 : Kd.C (Kd.int .u32) w A0 l0.length l0) (hc0 : l0.length ≤ c0) :
    Calls Tryd.prog 56 #[.slice A0 l0.length c0] w fun e w' => e = .returned (.slice A0 (cutLen l0 l0.length) c0) ∧ w = w' := by
  have HR0 := zMk hr0
  have HC0 := zMk hc0
  have hmax : l0.length ≤ 9223372036854775807 := hr0.2.1
  have HL : ∃ L, l0.length = L := ⟨_, rfl⟩
  obtain ⟨L, hL⟩ := HL
  have HLL := zMk hL
  have hc1 : L ≤ c0 := hL ▸ hc0
  have hmax1 : L ≤ 9223372036854775807 := hL ▸ hmax
  rw [hL]
  clear hr0 hc0 hL hmax
  go_enter Tryd.func56, Tryd.ntmps56
  go_wp2
  go_loop [0] (fun v => ∃ m : Nat, m ≤ L ∧ Aside0 (cutLen l0 m = cutLen l0 L) ∧ v = .slice A0 m c0) (fun v => match v with | .slice _ m _ => m | _ => 0)
  case atStart => exact ⟨L, Nat.le_refl _, ⟨rfl⟩, rfl⟩
  obtain ⟨m, hm, hcut, rfl⟩ := hrel
  rcases Nat.eq_zero_or_pos m with h0 | h0
  · subst h0
    go_wp2
    go_ret
    exact ⟨by rw [← hcut.out]; rfl, rfl⟩
  · have hi : ∃ j : Int, (m : Int) - 1 = j := ⟨_, rfl⟩
    obtain ⟨j, hj⟩ := hi
    have hj0 : 0 ≤ j := by omega
    have hjm : j < (m : Int) := by omega
    have hjL : j < ((l0.length : Nat) : Int) := by rw [HLL.out]; omega
    obtain ⟨ad, e, hx⟩ := zAi HR0.out j hj0 hjL
    subst e
    have hjn : j.toNat = m - 1 := by omega
    have hpos : decide (0 < m) = true := decide_eq_true h0
    have hstep : cutLen l0 m = if rd l0 j = 0 then cutLen l0 (m - 1) else m := by
      obtain ⟨n, rfl⟩ : ∃ n, m = n + 1 := ⟨m - 1, by omega⟩
      have hjn2 : j.toNat = n := by omega
      unfold rd
      rw [hjn2]
      simp only [cutLen, Nat.add_sub_cancel]
    have hstep := zMk hstep
    obtain ⟨i0, hi0, _, hsz, _⟩ := info_parts info58
    have hcutr := cut_to (P := Tryd.prog) 22 58 .i64 Tryd.underlying22 hi0 (some ad) m c0 j hj0 (by omega) (by omega)
    rw [hjn] at hcutr
    clear hi0 hsz hjn hjL
    have hjw : IntKind.i64.wrap ((m : Int) - 1) = j := by rw [i64_w]; unfold wrap64; omega
    have p1 := eq_true hj0
    have p2 := eq_true hjm
    have p3 : decide (0 ≤ j) = true := decide_eq_true hj0
    have p4 : decide (j < (m : Int)) = true := decide_eq_true hjm
    have p5 : decide (j ≤ (m : Int)) = true := decide_eq_true (Int.le_of_lt hjm)
    by_cases hz : rd l0 j = 0
    · have z1 : ((rd l0 j) == 0) = true := beq_iff_eq.mpr hz
      have hm2 : Aside0 (cutLen l0 (m - 1) = cutLen l0 L) := ⟨by rw [← hcut.out, hstep.out, if_pos hz]⟩
      clear hz hstep hcut
      go_wp2
      go_round
      case rel => exact ⟨m - 1, by omega, hm2, rfl⟩
      case measure => simp; omega
    · have z1 : ((rd l0 j) == 0) = false := beq_eq_false_iff_ne.mpr hz
      have hm2 : Aside0 (m = cutLen l0 L) := ⟨by rw [← hcut.out, hstep.out, if_neg hz]⟩
      clear hz hstep hcut
      go_wp2
      go_ret
      exact ⟨congrArg (fun z => Ending.returned (Value.slice (some ad) z c0)) hm2.out, rfl⟩
theorem n_cut.calls (P0_ : Nat → Prop) (A0 : Option Addr) (c0 : Nat) (l0 : List Int) (r : List Int) (w : World) (hs0 : Kd.V (Kd.int .u32) 58 w w.heap.size (fun k_ => P0_ k_) (.slice A0 l0.length c0) l0) (h : n_cut.f l0 = some r) :
    Calls Tryd.prog 56 #[.slice A0 l0.length c0] w fun e w' => ∃ v0_ : Value, e = .returned (v0_) ∧ Kd.V (Kd.int .u32) 58 w' w.heap.size (fun k_ => (P0_ k_ ∨ w.heap.size ≤ k_)) v0_ r ∧ Below w.heap.size w w' := by
  have hv := zVr hs0
  refine (n_cut.exact A0 c0 l0 w hv.2.2 hv.2.1).mono ?_
  rintro e w' ⟨rfl, rfl⟩
  unfold n_cut.f at h
  obtain rfl := zOi h
  have hle := cutLen_le l0 l0.length
  have hF := Kd.F_take (m := cutLen l0 l0.length) (Kd.V_F hs0) hle
  have hlen : (l0.take (cutLen l0 l0.length)).length = cutLen l0 l0.length := by rw [zLt]; omega
  refine ⟨_, rfl, ?_, Below.refl _ _⟩
  have h2 := Kd.V_mk (e := 58) (base := w.heap.size) (c := c0) (by rw [hlen]; omega) hF
  rw [hlen] at h2
  rw [hlen] at hF
  exact zVm h2 (fun k_ hk => .inl hk)



def slices_Clone_uint32_uint32.f (l0 : List Int) : Option (List Int) := if l0.length < 35184372088832 then some l0 else none
theorem slices_Clone_uint32_uint32.calls (A0 : Option Addr) (c0 : Nat) (l0 : List Int) (r : List Int) (w : World) (hr0 : Kd.C (Kd.int .u32) w A0 l0.length l0) (hc0 : l0.length ≤ c0) (h : slices_Clone_uint32_uint32.f l0 = some r) :
    Calls Tryd.prog 78 #[.slice A0 l0.length c0] w fun e w' => ∃ v0_ : Value, e = .returned (v0_) ∧ Kd.R (Kd.int .u32) 58 w' w.heap.size (fun _ => True) v0_ r ∧ Below w.heap.size w w' := by
  have HR0 := zMk hr0
  have HB := zMk (Below.refl w.heap.size w)
  unfold slices_Clone_uint32_uint32.f at h
  by_cases hl : l0.length < 35184372088832
  · rw [if_pos hl] at h
    obtain rfl := zOi h
    have LM := zMk hl
    clear hl h hr0
    have knil : ∀ (W : World) (a : Option Addr) (n c : Nat), (binOp .eql 22 (.slice a n c) (.slice none 0 0)).run Tryd.prog W = .ok (.bool a.isNone) W := fun W a n c => Lib.run_eql_slice_nil W 22 58 a n c 0 0 Tryd.underlying22
    cases A0 with
    | none =>
      have h0 : l0 = [] := by
        have h3 := HR0.out.2.2
        rcases Nat.eq_zero_or_pos l0.length with h4 | h4
        · exact List.eq_nil_of_length_eq_zero h4
        · obtain ⟨ad, e, _⟩ := h3 h4
          cases e
      subst h0
      go_enter Tryd.func78, Tryd.ntmps78
      go_wp2
      go_ret
      exact ⟨_, rfl, Kd.R_nil _ _ _ _ _, HB.out⟩
    | some ad =>
      go_enter Tryd.func78, Tryd.ntmps78
      go_wp2_with (first | ((with_reducible refine gate_dst (N := 5) rfl ?_); refine Kd.R_lit (Kd.int .u32) _ 58 ?hg (N := 5) ?hd (xs := ([] : List Int)) (inner := []) (ok := fun _ => True) (okp := fun _ => True) ?hr ?hp (fun _ hk => hk) trivial (Below.refl _ _) (Nat.le_refl _) (by simp) ?_; (case hd => rfl); (case hg => rfl); (case hr => first | (go_simp; done)|(go_simp; rfl)); (case hp => exact (Reps.none _ _)); intro v247 w10 ho11 hb hg_ hnew_; clear hg_ hnew_; have HO248 := zMk (zRl ho11 (zBs HB.out)); replace HB := zMk (zBt HB.out hb); clear hb ho11)|((with_reducible refine gate_builtin (b := .append) (xs := #[.tmp 5, .tmp 6]) rfl ?_); at_builtin; refine Kd.R_append_rows (Kd.int .u32) (w0 := w) w.heap.size rfl (.tmp 5) (.tmp 6) 22 58 (.int .u32 0) 4 rfl Tryd.underlying22 info58 rfl (by decide) (by omega) v247 [] l0 _ _ _ (fun _ => True) (fun _ => False) rfl rfl HO248.out (Kd.C_below HR0.out HB.out) (fun _ _ h => h) (fun _ h => h.elim) (fun _ _ => trivial) HB.out (zBs HB.out) (by have := LM.out; simp only [zLn]; omega) ?_; intro v251 w13 ho hb hg hat; replace HB := zMk (hb); have HO252 := zMk (ho); clear HO248 ho hb hg hat))
      go_ret
      exact ⟨_, rfl, by simpa using HO252.out, HB.out⟩
  · rw [if_neg hl] at h
    cases h


def r1_Same.l0 : Nat → List Int → List Int → Int → Option (Bool)
  | 0, _, _, _ => none
  | k + 1, x0, x1, x5 => if x5 < (x0.length : Int) then (if 0 ≤ x5 then (if x5 < (x1.length : Int) then (if (rd x0 x5) = (rd x1 x5) then (r1_Same.l0 k x0 x1 (wrap64 (x5 + 1))) else (some false)) else (none)) else (none)) else (some true)
def r1_Same.f (k : Nat) (l0 : List Int) (l1 : List Int) : Option (Bool) := if (l0.length : Int) = (l1.length : Int) then (r1_Same.l0 k l0 l1 0) else (some false)
theorem r1_Same.calls (k : Nat) (A0 : Option Addr) (c0 : Nat) (l0 : List Int) (A1 : Option Addr) (c1 : Nat) (l1 : List Int) (r : Bool) (w : World) (hr0 : Kd.C (Kd.int .u32) w A0 l0.length l0) (hc0 : l0.length ≤ c0) (hr1 : Kd.C (Kd.int .u32) w A1 l1.length l1) (hc1 : l1.length ≤ c1) (h : r1_Same.f k l0 l1 = some r) :
    Calls Tryd.prog 40 #[.slice A0 l0.length c0, .slice A1 l1.length c1] w fun e w' => e = .returned (.bool r) ∧ Drawn0 w w' := by
  have HR0 := zMk hr0
  have HC0 := zMk hc0
  clear hr0 hc0
  have HR1 := zMk hr1
  have HC1 := zMk hc1
  clear hr1 hc1
  have H : (if (l0.length : Int) = (l1.length : Int) then (r1_Same.l0 k l0 l1 0) else (some false)) = some r := h
  clear h
  by_cases c3 : (l0.length : Int) = (l1.length : Int)
  · rw [if_pos c3] at H
    have c3b0 : ((l0.length : Int) == (l1.length : Int)) = true := beq_iff_eq.mpr c3
    have c3b1 : ((l0.length : Int) != (l1.length : Int)) = false := bne_eq_false_iff_eq.mpr c3
    have c3b2 : (l0.length == l1.length) = true := by first | simpa using c3 | (simp at c3 ⊢; omega)
    clear c3
    have H' := zMk H
    clear H
    go_enter Tryd.func40, Tryd.ntmps40
    go_wp2
    repeat (go_quiet (fail); try go_wp2)
    go_loopg [5] k (fun kq v5 w' => ∃ (x5_1 : Int), v5 = .int .i64 x5_1 ∧ Aside0 (r1_Same.l0 kq l0 l1 x5_1 = some r) ∧ Aside0 (kq ≤ k) ∧ Drawn0 w w')
    case atStart => exact ⟨(0), (by first | rfl | (simp; done) | (simp [*]; done)), H', ⟨Nat.le_refl _⟩, by repeat (first | exact Drawn0.refl _ | apply Drawn0.step)⟩
    clear H'
    obtain ⟨x5_1, rfl, HA, HK1, ⟨m1, rfl⟩⟩ := hrel
    rcases gk with _ | k1
    · exact absurd HA.out (by simp [r1_Same.l0])
    have H := HA.out
    clear HA
    simp only [r1_Same.l0] at H
    by_cases c4 : x5_1 < (l0.length : Int)
    · rw [if_pos c4] at H
      have c4b0 : decide (x5_1 < (l0.length : Int)) = true := decide_eq_true c4
      clear c4
      by_cases c5 : 0 ≤ x5_1
      rotate_left
      · rw [if_neg c5] at H; exact absurd H (by simp)
      rw [if_pos c5] at H
      have c5b0 : decide (0 ≤ x5_1) = true := decide_eq_true c5
      clear c5
      by_cases c6 : x5_1 < (l1.length : Int)
      rotate_left
      · rw [if_neg c6] at H; exact absurd H (by simp)
      rw [if_pos c6] at H
      have c6b0 : decide (x5_1 < (l1.length : Int)) = true := decide_eq_true c6
      clear c6
      by_cases c7 : (rd l0 x5_1) = (rd l1 x5_1)
      · rw [if_pos c7] at H
        have c7b0 : ((rd l0 x5_1) == (rd l1 x5_1)) = true := beq_iff_eq.mpr c7
        have c7b1 : ((rd l0 x5_1) != (rd l1 x5_1)) = false := bne_eq_false_iff_eq.mpr c7
        clear c7
        have H' := zMk H
        clear H
        have p421 : 0 ≤ (x5_1 : Int) := of_decide_eq_true (by assumption)
        have q421 : x5_1 < (l0.length : Int) := of_decide_eq_true (by assumption)
        obtain ⟨ad421, e421, hx421_0⟩ := zAi HR0.out x5_1 p421 q421
        cases e421
        replace p421 := eq_true p421
        replace q421 := eq_true q421
        have p422 : 0 ≤ (x5_1 : Int) := of_decide_eq_true (by assumption)
        have q422 : x5_1 < (l1.length : Int) := of_decide_eq_true (by assumption)
        obtain ⟨ad422, e422, hx422_0⟩ := zAi HR1.out x5_1 p422 q422
        cases e422
        replace p422 := eq_true p422
        replace q422 := eq_true q422
        go_wp2
        repeat (go_quiet (fail); try go_wp2)
        go_roundg k1
        case measure => have := HK1.out; omega
        case rel => exact ⟨(wrap64 (x5_1 + 1)), (by first | rfl | (simp; done) | (simp [*]; done)), H', ⟨by have := HK1.out; omega⟩, by repeat (first | exact Drawn0.refl _ | apply Drawn0.step)⟩
      · rw [if_neg c7] at H
        have c7b0 : ((rd l0 x5_1) == (rd l1 x5_1)) = false := beq_eq_false_iff_ne.mpr c7
        have c7b1 : ((rd l0 x5_1) != (rd l1 x5_1)) = true := bne_iff_ne.mpr c7
        obtain rfl := zOi H
        have p421 : 0 ≤ (x5_1 : Int) := of_decide_eq_true (by assumption)
        have q421 : x5_1 < (l0.length : Int) := of_decide_eq_true (by assumption)
        obtain ⟨ad421, e421, hx421_0⟩ := zAi HR0.out x5_1 p421 q421
        cases e421
        replace p421 := eq_true p421
        replace q421 := eq_true q421
        have p422 : 0 ≤ (x5_1 : Int) := of_decide_eq_true (by assumption)
        have q422 : x5_1 < (l1.length : Int) := of_decide_eq_true (by assumption)
        obtain ⟨ad422, e422, hx422_0⟩ := zAi HR1.out x5_1 p422 q422
        cases e422
        replace p422 := eq_true p422
        replace q422 := eq_true q422
        go_wp2
        repeat (go_quiet (fail); try go_wp2)
        go_ret
        exact ⟨by first | rfl | (simp; done) | (simp [*]; done), by repeat (first | exact Drawn0.refl _ | apply Drawn0.step)⟩
    · rw [if_neg c4] at H
      have c4b0 : decide (x5_1 < (l0.length : Int)) = false := decide_eq_false c4
      clear c4
      obtain rfl := zOi H
      go_wp2
      repeat (go_quiet (fail); try go_wp2)
      go_ret
      exact ⟨by first | rfl | (simp; done) | (simp [*]; done), by repeat (first | exact Drawn0.refl _ | apply Drawn0.step)⟩
  · rw [if_neg c3] at H
    have c3b0 : ((l0.length : Int) == (l1.length : Int)) = false := beq_eq_false_iff_ne.mpr c3
    have c3b1 : ((l0.length : Int) != (l1.length : Int)) = true := bne_iff_ne.mpr c3
    have c3b2 : (l0.length == l1.length) = false := by first | simpa using c3 | (simp at c3 ⊢; omega)
    obtain rfl := zOi H
    go_enter Tryd.func40, Tryd.ntmps40
    go_wp2
    repeat (go_quiet (fail); try go_wp2)
    go_ret
    exact ⟨by first | rfl | (simp; done) | (simp [*]; done), by repeat (first | exact Drawn0.refl _ | apply Drawn0.step)⟩


def r1_Of.f (k : Nat) (a0 : Int) : Option (List Int) := (r1_Norm.f k (([(Go.bits .and .u64 a0 4294967295) % 4294967296, (a0 / 4294967296) % 4294967296] : List Int))).bind fun t728 => (some t728)
theorem r1_Of.calls (k : Nat) (a0 : Int) (r : List Int) (w : World) (h : r1_Of.f k a0 = some r) :
    Calls Tryd.prog 66 #[.int .u64 a0] w fun e w' => ∃ v0_ : Value, e = .returned (v0_) ∧ Kd.R (Kd.int .u32) 58 w' w.heap.size (fun _ => True) v0_ r ∧ Below w.heap.size w w' := by
  have HB := zMk (Below.refl w.heap.size w)
  have H : ((r1_Norm.f k (([(Go.bits .and .u64 a0 4294967295) % 4294967296, (a0 / 4294967296) % 4294967296] : List Int))).bind fun t728 => (some t728)) = some r := h
  clear h
  obtain ⟨y725, hy725⟩ : ∃ y_ : List Int, y_ = (([(Go.bits .and .u64 a0 4294967295) % 4294967296, (a0 / 4294967296) % 4294967296] : List Int)) := ⟨_, rfl⟩
  replace H : ((r1_Norm.f k y725).bind fun t728 => (some t728)) = some r := by first | (rw [hy725]; with_reducible exact H) | (have H2_ := bsm H; first | (rw [hy725]; with_reducible exact H2_) | with_reducible exact H2_) | with_reducible exact H | (rw [hy725]; exact H) | exact H
  have Ny725 := zMk hy725
  clear hy725
  replace H := bnd H
  obtain ⟨t728, A20, H⟩ := H
  have A2 := zMk A20
  clear A20
  obtain rfl := zOi H
  go_enter Tryd.func66, Tryd.ntmps66
  go_wp2_with (first | ((with_reducible refine gate_dst (N := 9) rfl ?_); refine Kd.R_lit (Kd.int .u32) _ 58 ?hg (N := 9) ?hd (xs := ([(Go.bits .and .u64 a0 4294967295) % 4294967296, (a0 / 4294967296) % 4294967296] : List Int)) (inner := [.int .u32 ((Go.bits .and .u64 a0 4294967295) % 4294967296), .int .u32 ((a0 / 4294967296) % 4294967296)]) (ok := fun _ => True) (okp := fun _ => True) ?hr ?hp (fun _ hk => hk) trivial (Below.refl _ _) (Nat.le_refl _) (by simp) ?_; (case hd => rfl); (case hg => rfl); (case hr => first | (go_simp; done)|(go_simp; rfl)|(go_simp; rw [show ∀ x : Int, IntKind.u32.wrap (IntKind.u8.wrap x) = x % 256 from fun x => (by show (x % 256) % 4294967296 = x % 256; omega)])); (case hp => exact (Reps.one (show Kd.M (Kd.int .u32) _ _ _ ((Go.bits .and .u64 a0 4294967295) % 4294967296) [.int .u32 ((Go.bits .and .u64 a0 4294967295) % 4294967296)] from rfl) (Reps.one (show Kd.M (Kd.int .u32) _ _ _ ((a0 / 4294967296) % 4294967296) [.int .u32 ((a0 / 4294967296) % 4294967296)] from rfl) (Reps.none _ _)))); intro v726 w3 ho4 hb hg_ hnew_; clear hg_ hnew_; (first |  rw [← Ny725.out] at ho4|  (simp only [Int.reduceToNat] at ho4; rw [← Ny725.out] at ho4)); have HO727 := zMk (zRl ho4 (zBs (by exact uT HB.out))); replace HB := zMk (zBt (by exact uT HB.out) hb); clear hb ho4; obtain ⟨Ao5, co5, eo5⟩ := zRs HO727.out; subst eo5)|((with_reducible refine gate_callee (f := 63) rfl ?_); refine goesL_ (some 10) rfl rfl Tryd.func63 (by kernel_rfl) rfl #[.slice Ao5 y725.length co5] rfl (by (try simp only [zMa, zMc, zMn]); first |  done|  rfl|  (simp only [zLd, zLt]; rfl)) ?_; (with_reducible refine (r1_Norm.calls k _ _ y725 t728 _ ?side1 ?side2 A2.out).mono ?_); (case side1 => exact uC (zRr HO727.out).2.2); (case side2 => exact (zRr HO727.out).2.1); rintro e w6 ⟨v729, rfl, ho0, hb⟩; refine ⟨_, rfl, ?_⟩; have HO730 := zMk (zRl (zRw ho0 (zRt (by exact uR HO727.out))) (zBs (by exact uT HB.out))); replace HO727 := zMk (zRe (by exact uR HO727.out) (zRz ho0) hb); replace HB := zMk (zBt (by exact uT HB.out) hb)))
  go_ret
  exact ⟨_, by first | rfl | (simp [errW_none, errW_some] <;> rfl) | (simp [*, errW_none, errW_some] <;> rfl), by (with_reducible repeat (first | apply zRa | apply zRn | apply zRd)); exact zRm HO730.out (fun _ hk => trivial), by exact uT HB.out⟩


def n_Of.f (a0 : Int) : Option (List Int) := (n_cut.f (([(a0) % 4294967296, (a0 / 4294967296) % 4294967296] : List Int))).bind fun t104 => (some t104)
theorem n_Of.calls (a0 : Int) (r : List Int) (w : World) (h : n_Of.f a0 = some r) :
    Calls Tryd.prog 34 #[.int .u64 a0] w fun e w' => ∃ v0_ : Value, e = .returned (v0_) ∧ Kd.V (Kd.int .u32) 58 w' w.heap.size (fun k_ => (w.heap.size ≤ k_)) v0_ r ∧ Below w.heap.size w w' := by
  have HB := zMk (Below.refl w.heap.size w)
  have H : ((n_cut.f (([(a0) % 4294967296, (a0 / 4294967296) % 4294967296] : List Int))).bind fun t104 => (some t104)) = some r := h
  clear h
  obtain ⟨y101, hy101⟩ : ∃ y_ : List Int, y_ = (([(a0) % 4294967296, (a0 / 4294967296) % 4294967296] : List Int)) := ⟨_, rfl⟩
  replace H : ((n_cut.f y101).bind fun t104 => (some t104)) = some r := by first | (rw [hy101]; with_reducible exact H) | (have H2_ := bsm H; first | (rw [hy101]; with_reducible exact H2_) | with_reducible exact H2_) | with_reducible exact H | (rw [hy101]; exact H) | exact H
  have Ny101 := zMk hy101
  clear hy101
  replace H := bnd H
  obtain ⟨t104, A20, H⟩ := H
  have A2 := zMk A20
  clear A20
  obtain rfl := zOi H
  go_enter Tryd.func34, Tryd.ntmps34
  go_wp2_with (first | ((with_reducible refine gate_dst (N := 8) rfl ?_); refine Kd.R_lit (Kd.int .u32) _ 58 ?hg (N := 8) ?hd (xs := ([(a0) % 4294967296, (a0 / 4294967296) % 4294967296] : List Int)) (inner := [.int .u32 ((a0) % 4294967296), .int .u32 ((a0 / 4294967296) % 4294967296)]) (ok := fun _ => True) (okp := fun _ => True) ?hr ?hp (fun _ hk => hk) trivial (Below.refl _ _) (Nat.le_refl _) (by simp) ?_; (case hd => rfl); (case hg => rfl); (case hr => first | (go_simp; done)|(go_simp; rfl)|(go_simp; rw [show ∀ x : Int, IntKind.u32.wrap (IntKind.u8.wrap x) = x % 256 from fun x => (by show (x % 256) % 4294967296 = x % 256; omega)])); (case hp => exact (Reps.one (show Kd.M (Kd.int .u32) _ _ _ ((a0) % 4294967296) [.int .u32 ((a0) % 4294967296)] from rfl) (Reps.one (show Kd.M (Kd.int .u32) _ _ _ ((a0 / 4294967296) % 4294967296) [.int .u32 ((a0 / 4294967296) % 4294967296)] from rfl) (Reps.none _ _)))); intro v102 w3 ho4 hb hg_ hnew_; clear hg_ hnew_; (first |  rw [← Ny101.out] at ho4|  (simp only [Int.reduceToNat] at ho4; rw [← Ny101.out] at ho4)); have HO103 := zMk (zRl (Kd.R_newM (M := fun k_ => (w.heap.size ≤ k_)) ho4 (zBs (by exact uT HB.out)) (fun k_ h_ => h_)) (zBs (by exact uT HB.out))); replace HB := zMk (zBt (by exact uT HB.out) hb); clear hb ho4; obtain ⟨Ao5, co5, eo5⟩ := zRs HO103.out; subst eo5)|((with_reducible refine gate_callee (f := 56) rfl ?_); refine goesL_ (some 9) rfl rfl Tryd.func56 (by kernel_rfl) rfl #[.slice Ao5 y101.length co5] rfl (by (try simp only [zMa, zMc, zMn]); first |  done|  rfl|  (simp only [zLd, zLt]; rfl)) ?_; (with_reducible refine (n_cut.calls (fun k_ => some k_ = (.slice Ao5 y101.length co5 : Value).ownBlock) _ _ y101 t104 _ ?side1 A2.out).mono ?_); (case side1 => exact Kd.R_V (Kd.R_tight rfl (HO103.out))); rintro e w6 ⟨v105, rfl, ho0, hb⟩; refine ⟨_, rfl, ?_⟩; have HO106 := zMk (zVl (zVm (ok' := fun k_ => (w.heap.size ≤ k_)) ho0 (fun k_ hk_ => Or.elim hk_ (fun hs_ => ((HO103.out).1 k_ hs_.symm).1) (fun hn_ => (Nat.le_trans (zBs (by exact uT HB.out)) hn_)))) (zBs (by exact uT HB.out))); replace HO103 := zMk (zRb (by exact uR HO103.out) hb); replace HB := zMk (zBt (by exact uT HB.out) hb)))
  go_ret
  exact ⟨_, by first | rfl | (simp [errW_none, errW_some] <;> rfl) | (simp [*, errW_none, errW_some] <;> rfl), by exact uV HO106.out, by exact uT HB.out⟩


def n_Norm.f (l0 : List Int) : Option (List Int) := (n_cut.f l0).bind fun t128 => ((slices_Clone_uint32_uint32.f t128).bind fun t131 => (some t131))
theorem n_Norm.calls (A0 : Option Addr) (c0 : Nat) (l0 : List Int) (r : List Int) (w : World) (hr0 : Kd.C (Kd.int .u32) w A0 l0.length l0) (hc0 : l0.length ≤ c0) (h : n_Norm.f l0 = some r) :
    Calls Tryd.prog 57 #[.slice A0 l0.length c0] w fun e w' => ∃ v0_ : Value, e = .returned (v0_) ∧ Kd.R (Kd.int .u32) 58 w' w.heap.size (fun _ => True) v0_ r ∧ Below w.heap.size w w' := by
  have HR0 := zMk hr0
  have HC0 := zMk hc0
  clear hr0 hc0
  have HB := zMk (Below.refl w.heap.size w)
  have H : ((n_cut.f l0).bind fun t128 => ((slices_Clone_uint32_uint32.f t128).bind fun t131 => (some t131))) = some r := h
  clear h
  replace H := bnd H
  obtain ⟨t128, A20, H⟩ := H
  have A2 := zMk A20
  clear A20
  replace H := bnd H
  obtain ⟨t131, A30, H⟩ := H
  have A3 := zMk A30
  clear A30
  obtain rfl := zOi H
  go_enter Tryd.func57, Tryd.ntmps57
  go_wp2_with (first | ((with_reducible refine gate_callee (f := 56) rfl ?_); refine goesL_ (some 4) rfl rfl Tryd.func56 (by kernel_rfl) rfl #[.slice A0 l0.length c0] rfl (by (try simp only [zMa, zMc, zMn]); first |  done|  rfl|  (simp only [zLd, zLt]; rfl)) ?_; (with_reducible refine (n_cut.calls (fun k_ => k_ < w.heap.size) _ _ l0 t128 _ ?side1 A2.out).mono ?_); (case side1 => exact Kd.V_mk HC0.out (Kd.F_below (Kd.C_F (Kd.heap_int .u32) HR0.out) (by exact uT HB.out))); rintro e w4 ⟨v129, rfl, ho0, hb⟩; refine ⟨_, rfl, ?_⟩; have HO130 := zMk (zVl (zVm (ok' := fun k_ => True) ho0 (fun k_ hk_ => trivial)) (zBs (by exact uT HB.out))); replace HB := zMk (zBt (by exact uT HB.out) hb); obtain ⟨Ao5, co5, eo5⟩ := zVs HO130.out; subst eo5)|((with_reducible refine gate_callee (f := 78) rfl ?_); refine goesL_ (some 5) rfl rfl Tryd.func78 (by kernel_rfl) rfl #[.slice Ao5 t128.length co5] rfl (by (try simp only [zMa, zMc, zMn]); first |  done|  rfl|  (simp only [zLd, zLt]; rfl)) ?_; (with_reducible refine (slices_Clone_uint32_uint32.calls _ _ t128 t131 _ ?side1 ?side2 A3.out).mono ?_); (case side1 => exact uC (zVr HO130.out).2.2); (case side2 => exact (zVr HO130.out).2.1); rintro e w6 ⟨v132, rfl, ho0, hb⟩; refine ⟨_, rfl, ?_⟩; replace HO130 := zMk (zVe (by exact uV HO130.out) (zRz ho0) hb); have HO133 := zMk (zRl ho0 (zBs (by exact uT HB.out))); replace HB := zMk (zBt (by exact uT HB.out) hb)))
  go_ret
  exact ⟨_, by first | rfl | (simp [errW_none, errW_some] <;> rfl) | (simp [*, errW_none, errW_some] <;> rfl), by exact uR HO133.out, by exact uT HB.out⟩


def val : List Int → Int
  | [] => 0
  | x :: r => x + 4294967296 * val r
def Limbs (l : List Int) : Prop := ∀ x ∈ l, 0 ≤ x ∧ x < 4294967296
theorem w64 {n : Int} (h : -9223372036854775808 ≤ n) (h' : n ≤ 9223372036854775807) : wrap64 n = n := by unfold wrap64; omega
theorem limbs_of_wf {l : List Int} (h : ∀ x ∈ l, (Lit.int .u32 x).wf = true) : Limbs l := fun x hx => by
  have := Go.bounds_u32 (h x hx)
  omega
theorem Limbs.nil : Limbs [] := fun _ h => by cases h
theorem Limbs.cons {x : Int} {l : List Int} (h : Limbs (x :: l)) : (0 ≤ x ∧ x < 4294967296) ∧ Limbs l := ⟨h x (List.mem_cons_self ..), fun y hy => h y (List.mem_cons_of_mem _ hy)⟩
theorem Limbs.mk {x : Int} {l : List Int} (h0 : 0 ≤ x) (h1 : x < 4294967296) (h : Limbs l) : Limbs (x :: l) := fun y hy => by
  rcases List.mem_cons.1 hy with rfl | hy
  · exact ⟨h0, h1⟩
  · exact h y hy
theorem Limbs.take {l : List Int} (h : Limbs l) (n : Nat) : Limbs (l.take n) := fun x hx => h x (List.mem_of_mem_take hx)
theorem getD_lt (l : List Int) {n : Nat} (h : n < l.length) : l.getD n 0 = l[n] := by rw [List.getD_eq_getElem?_getD, List.getElem?_eq_getElem h, Option.getD_some]
theorem getD_ge (l : List Int) {n : Nat} (h : l.length ≤ n) : l.getD n 0 = 0 := by rw [List.getD_eq_getElem?_getD, List.getElem?_eq_none h, Option.getD_none]
theorem Limbs.getD {l : List Int} (h : Limbs l) (n : Nat) : 0 ≤ l.getD n 0 ∧ l.getD n 0 < 4294967296 := by
  by_cases hn : n < l.length
  · rw [getD_lt _ hn]; exact h _ (List.getElem_mem hn)
  · rw [getD_ge _ (by omega)]; omega
theorem val_append (a b : List Int) : val (a ++ b) = val a + 4294967296 ^ a.length * val b := by
  induction a with
  | nil => simp [val]
  | cons x a ih => simp only [List.cons_append, val, ih, zLc, Int.pow_succ]; rw [Int.mul_add, ← Int.mul_assoc, Int.mul_comm 4294967296 (4294967296 ^ a.length)]; omega
theorem val_nonneg {l : List Int} (h : Limbs l) : 0 ≤ val l := by
  induction l with
  | nil => simp [val]
  | cons x l ih => have := h.cons; have := ih this.2; simp only [val]; omega
theorem val_lt {l : List Int} (h : Limbs l) : val l < 4294967296 ^ l.length := by
  induction l with
  | nil => simp [val]
  | cons x l ih =>
    have h1 := h.cons
    have h2 := ih h1.2
    simp only [val, zLc, Int.pow_succ]
    omega

def Trim (l : List Int) : Prop := l = [] ∨ l.getD (l.length - 1) 0 ≠ 0
theorem Trim.tail {x : Int} {l : List Int} (h : Trim (x :: l)) : Trim l := by
  rcases l with _ | ⟨y, l⟩
  · exact .inl rfl
  · rcases h with h | h
    · cases h
    · exact .inr (by simpa using h)
theorem val_pos {l : List Int} (h : Limbs l) (ht : Trim l) (hn : l ≠ []) : 0 < val l := by
  induction l with
  | nil => exact absurd rfl hn
  | cons x l ih =>
    have h1 := h.cons
    rcases l with _ | ⟨y, l⟩
    · rcases ht with ht | ht
      · cases ht
      · simp [val] at ht ⊢; omega
    · have := ih h1.2 ht.tail (by simp)
      simp only [val] at this ⊢
      omega
theorem val_inj {a : List Int} : ∀ {b : List Int}, Limbs a → Trim a → Limbs b → Trim b → val a = val b → a = b := by
  induction a with
  | nil =>
    intro b _ _ hb tb h
    by_cases hn : b = []
    · exact hn.symm
    · have := val_pos hb tb hn
      simp only [val] at h
      omega
  | cons x a ih =>
    intro b ha ta hb tb h
    rcases b with _ | ⟨y, b⟩
    · have := val_pos ha ta (by simp)
      simp only [val] at h this
      omega
    · have h1 := ha.cons
      have h2 := hb.cons
      simp only [val] at h
      have h3 : x = y := by omega
      have h4 : val a = val b := by omega
      rw [h3, ih h1.2 ta.tail h2.2 tb.tail h4]

theorem cutLen_trim (l : List Int) : ∀ n, cutLen l n = 0 ∨ l.getD (cutLen l n - 1) 0 ≠ 0
  | 0 => .inl rfl
  | n + 1 => by
    simp only [cutLen]
    split
    · exact cutLen_trim l n
    · rename_i h
      exact .inr (by simpa using h)
theorem val_cutLen (l : List Int) : ∀ n, n ≤ l.length → val (l.take (cutLen l n)) = val (l.take n)
  | 0, _ => by simp [cutLen]
  | n + 1, h => by
    simp only [cutLen]
    split
    · rename_i h0
      rw [val_cutLen l n (by omega), List.take_succ_eq_append_getElem (by omega), val_append]
      rw [getD_lt _ (by omega)] at h0
      simp [val, h0]
    · rfl
def cut (l : List Int) : List Int := l.take (cutLen l l.length)
theorem cut_length (l : List Int) : (cut l).length ≤ l.length := by unfold cut; rw [zLt]; omega
theorem cut_len (l : List Int) : (cut l).length = cutLen l l.length := by have := cutLen_le l l.length; unfold cut; rw [zLt]; omega
theorem cut_limbs {l : List Int} (h : Limbs l) : Limbs (cut l) := h.take _
theorem cut_val (l : List Int) : val (cut l) = val l := by unfold cut; rw [val_cutLen l _ (Nat.le_refl _), List.take_length]
theorem cut_trim (l : List Int) : Trim (cut l) := by
  have h1 := cut_len l
  rcases cutLen_trim l l.length with h | h
  · exact .inl (List.eq_nil_of_length_eq_zero (by omega))
  · by_cases h0 : cutLen l l.length = 0
    · exact .inl (List.eq_nil_of_length_eq_zero (by omega))
    · refine .inr ?_
      rw [h1]
      unfold cut
      rw [List.getD_eq_getElem?_getD, List.getElem?_take, if_pos (by omega), ← List.getD_eq_getElem?_getD]
      exact h
theorem cut_f (l : List Int) : n_cut.f l = some (cut l) := rfl
theorem rd_nat (l : List Int) (n : Nat) : rd l (n : Int) = l.getD n 0 := by simp [rd]

theorem same_l0 (l : List Int) (hl : l.length < 4611686018427387904) : ∀ (m k : Nat), m ≤ l.length → l.length - m < k → r1_Same.l0 k l l (m : Int) = some true := by
  intro m k
  induction k generalizing m with
  | zero => intro _ h; omega
  | succ k ih =>
    intro hm hk
    simp only [r1_Same.l0]
    by_cases h : (m : Int) < (l.length : Int)
    · simp only [h, if_true, show (0 : Int) ≤ (m : Int) from by omega, w64 (n := (m : Int) + 1) (by omega) (by omega)]
      exact ih (m + 1) (by omega) (by omega)
    · rw [if_neg h]
theorem same_f (l : List Int) (hl : l.length < 4611686018427387904) (k : Nat) (hk : l.length < k) : r1_Same.f k l l = some true := by
  unfold r1_Same.f
  rw [if_pos rfl]
  exact same_l0 l hl 0 k (by omega) (by omega)
theorem norm_l0 (l : List Int) (hl : l.length < 35184372088832) : ∀ (n k : Nat), n ≤ l.length → n < k → r1_Norm.l0 k l (n : Int) = some (l.take (cutLen l n)) := by
  intro n k
  induction k generalizing n with
  | zero => intro _ h; omega
  | succ k ih =>
    intro hn hk
    simp only [r1_Norm.l0]
    rcases n with _ | n
    · rw [if_neg (by omega)]
      simp only [zOb]
      rw [if_pos (by omega), if_pos (by omega), if_pos (by simp)]
      simp [cutLen]
    · rw [if_pos (by omega), w64 (by omega) (by omega), show ((n + 1 : Nat) : Int) - 1 = (n : Int) from by omega, if_pos (by omega), if_pos (by omega), rd_nat]
      simp only [cutLen]
      by_cases h : l.getD n 0 = 0
      · rw [if_pos h, if_pos h]
        exact ih n (by omega) (by omega)
      · rw [if_neg h, if_neg h]
        simp only [zOb]
        rw [if_pos (by omega), if_pos (by omega), if_pos (by simp; omega)]
        simp
theorem norm_f (l : List Int) (hl : l.length < 35184372088832) (k : Nat) (hk : l.length < k) : r1_Norm.f k l = some (cut l) := norm_l0 l hl l.length k (Nat.le_refl _) hk
theorem clone_f (l : List Int) (hl : l.length < 35184372088832) : slices_Clone_uint32_uint32.f l = some l := if_pos hl
theorem nnorm_f (l : List Int) (hl : l.length < 35184372088832) : n_Norm.f l = some (cut l) := by
  unfold n_Norm.f
  rw [cut_f, zOb, clone_f _ (by have := cut_length l; omega)]
  rfl

def cmp_isNaN_int.f (a0 : Int) : Option (Bool) := some (a0 != a0)
theorem cmp_isNaN_int.calls (a0 : Int) (r : Bool) (w : World) (h : cmp_isNaN_int.f a0 = some r) :
    Calls Tryd.prog 81 #[.int .i64 a0] w fun e w' => e = .returned (.bool r) ∧ Drawn0 w w' := by
  have H : (some (a0 != a0)) = some r := h
  clear h
  obtain rfl := zOi H
  go_enter Tryd.func81, Tryd.ntmps81
  go_wp2
  go_ret
  exact ⟨by first | rfl | (simp; done) | (simp [*]; done), by repeat (first | exact Drawn0.refl _ | apply Drawn0.step)⟩


def cmp_Compare_int.f (a0 : Int) (a1 : Int) : Option (Int) := (cmp_isNaN_int.f a0).bind fun t124 => ((cmp_isNaN_int.f a1).bind fun t125 => (if t124 = true then (if t125 = true then (some 0) else (some (-1))) else (if t125 = true then (some 1) else (if a0 < a1 then (some (-1)) else (if a0 > a1 then (some 1) else (some 0))))))
theorem cmp_Compare_int.calls (a0 : Int) (a1 : Int) (r : Int) (w : World) (h : cmp_Compare_int.f a0 a1 = some r) :
    Calls Tryd.prog 70 #[.int .i64 a0, .int .i64 a1] w fun e w' => e = .returned (.int .i64 r) ∧ Drawn0 w w' := by
  have H : ((cmp_isNaN_int.f a0).bind fun t124 => ((cmp_isNaN_int.f a1).bind fun t125 => (if t124 = true then (if t125 = true then (some 0) else (some (-1))) else (if t125 = true then (some 1) else (if a0 < a1 then (some (-1)) else (if a0 > a1 then (some 1) else (some 0))))))) = some r := h
  clear h
  replace H := bnd H
  obtain ⟨t124, A30, H⟩ := H
  have A3 := zMk A30
  clear A30
  replace H := bnd H
  obtain ⟨t125, A40, H⟩ := H
  have A4 := zMk A40
  clear A40
  by_cases c5 : t124 = true
  · subst c5
    replace H : (if t125 = true then (some 0) else (some (-1))) = some r := by rw [if_pos rfl] at H; exact H
    by_cases c6 : t125 = true
    · subst c6
      replace H : (some 0) = some r := by rw [if_pos rfl] at H; exact H
      obtain rfl := zOi H
      go_enter Tryd.func70, Tryd.ntmps70
      go_wp2_with (first | ((with_reducible refine gate_callee (f := 81) rfl ?_); refine goesL_ (some 8) rfl rfl Tryd.func81 (by kernel_rfl) rfl #[.int .i64 a0] rfl (by (try simp only [zMa, zMc, zMn]); first | done | rfl | (simp only [zLd, zLt]; rfl)) ?_; (with_reducible refine (cmp_isNaN_int.calls a0 true _ A3.out).mono ?_); rintro e w' ⟨rfl, ⟨nd, rfl⟩⟩; refine ⟨_, rfl, ?_⟩) | ((with_reducible refine gate_callee (f := 81) rfl ?_); refine goesL_ (some 10) rfl rfl Tryd.func81 (by kernel_rfl) rfl #[.int .i64 a1] rfl (by (try simp only [zMa, zMc, zMn]); first | done | rfl | (simp only [zLd, zLt]; rfl)) ?_; (with_reducible refine (cmp_isNaN_int.calls a1 true _ A4.out).mono ?_); rintro e w' ⟨rfl, ⟨nd, rfl⟩⟩; refine ⟨_, rfl, ?_⟩))
      go_ret
      exact ⟨by first | rfl | (simp; done) | (simp [*]; done), by repeat (first | exact Drawn0.refl _ | apply Drawn0.step)⟩
    · replace c6 := Bool.eq_false_iff.mpr c6
      subst c6
      replace H : (some (-1)) = some r := by rw [if_neg (show ¬ (false = true) by decide)] at H; exact H
      obtain rfl := zOi H
      go_enter Tryd.func70, Tryd.ntmps70
      go_wp2_with (first | ((with_reducible refine gate_callee (f := 81) rfl ?_); refine goesL_ (some 8) rfl rfl Tryd.func81 (by kernel_rfl) rfl #[.int .i64 a0] rfl (by (try simp only [zMa, zMc, zMn]); first | done | rfl | (simp only [zLd, zLt]; rfl)) ?_; (with_reducible refine (cmp_isNaN_int.calls a0 true _ A3.out).mono ?_); rintro e w' ⟨rfl, ⟨nd, rfl⟩⟩; refine ⟨_, rfl, ?_⟩) | ((with_reducible refine gate_callee (f := 81) rfl ?_); refine goesL_ (some 10) rfl rfl Tryd.func81 (by kernel_rfl) rfl #[.int .i64 a1] rfl (by (try simp only [zMa, zMc, zMn]); first | done | rfl | (simp only [zLd, zLt]; rfl)) ?_; (with_reducible refine (cmp_isNaN_int.calls a1 false _ A4.out).mono ?_); rintro e w' ⟨rfl, ⟨nd, rfl⟩⟩; refine ⟨_, rfl, ?_⟩))
      go_ret
      exact ⟨by first | rfl | (simp; done) | (simp [*]; done), by repeat (first | exact Drawn0.refl _ | apply Drawn0.step)⟩
  · replace c5 := Bool.eq_false_iff.mpr c5
    subst c5
    replace H : (if t125 = true then (some 1) else (if a0 < a1 then (some (-1)) else (if a0 > a1 then (some 1) else (some 0)))) = some r := by rw [if_neg (show ¬ (false = true) by decide)] at H; exact H
    by_cases c7 : t125 = true
    · subst c7
      replace H : (some 1) = some r := by rw [if_pos rfl] at H; exact H
      obtain rfl := zOi H
      go_enter Tryd.func70, Tryd.ntmps70
      go_wp2_with (first | ((with_reducible refine gate_callee (f := 81) rfl ?_); refine goesL_ (some 8) rfl rfl Tryd.func81 (by kernel_rfl) rfl #[.int .i64 a0] rfl (by (try simp only [zMa, zMc, zMn]); first | done | rfl | (simp only [zLd, zLt]; rfl)) ?_; (with_reducible refine (cmp_isNaN_int.calls a0 false _ A3.out).mono ?_); rintro e w' ⟨rfl, ⟨nd, rfl⟩⟩; refine ⟨_, rfl, ?_⟩) | ((with_reducible refine gate_callee (f := 81) rfl ?_); refine goesL_ (some 10) rfl rfl Tryd.func81 (by kernel_rfl) rfl #[.int .i64 a1] rfl (by (try simp only [zMa, zMc, zMn]); first | done | rfl | (simp only [zLd, zLt]; rfl)) ?_; (with_reducible refine (cmp_isNaN_int.calls a1 true _ A4.out).mono ?_); rintro e w' ⟨rfl, ⟨nd, rfl⟩⟩; refine ⟨_, rfl, ?_⟩))
      go_ret
      exact ⟨by first | rfl | (simp; done) | (simp [*]; done), by repeat (first | exact Drawn0.refl _ | apply Drawn0.step)⟩
    · replace c7 := Bool.eq_false_iff.mpr c7
      subst c7
      replace H : (if a0 < a1 then (some (-1)) else (if a0 > a1 then (some 1) else (some 0))) = some r := by rw [if_neg (show ¬ (false = true) by decide)] at H; exact H
      by_cases c8 : a0 < a1
      · rw [if_pos c8] at H
        have c8b0 : decide (a0 < a1) = true := decide_eq_true c8
        clear c8
        obtain rfl := zOi H
        go_enter Tryd.func70, Tryd.ntmps70
        go_wp2_with (first | ((with_reducible refine gate_callee (f := 81) rfl ?_); refine goesL_ (some 8) rfl rfl Tryd.func81 (by kernel_rfl) rfl #[.int .i64 a0] rfl (by (try simp only [zMa, zMc, zMn]); first | done | rfl | (simp only [zLd, zLt]; rfl)) ?_; (with_reducible refine (cmp_isNaN_int.calls a0 false _ A3.out).mono ?_); rintro e w' ⟨rfl, ⟨nd, rfl⟩⟩; refine ⟨_, rfl, ?_⟩) | ((with_reducible refine gate_callee (f := 81) rfl ?_); refine goesL_ (some 10) rfl rfl Tryd.func81 (by kernel_rfl) rfl #[.int .i64 a1] rfl (by (try simp only [zMa, zMc, zMn]); first | done | rfl | (simp only [zLd, zLt]; rfl)) ?_; (with_reducible refine (cmp_isNaN_int.calls a1 false _ A4.out).mono ?_); rintro e w' ⟨rfl, ⟨nd, rfl⟩⟩; refine ⟨_, rfl, ?_⟩))
        go_ret
        exact ⟨by first | rfl | (simp; done) | (simp [*]; done), by repeat (first | exact Drawn0.refl _ | apply Drawn0.step)⟩
      · rw [if_neg c8] at H
        have c8b0 : decide (a0 < a1) = false := decide_eq_false c8
        clear c8
        by_cases c9 : a0 > a1
        · rw [if_pos c9] at H
          have c9b0 : decide (a1 < a0) = true := decide_eq_true c9
          clear c9
          obtain rfl := zOi H
          go_enter Tryd.func70, Tryd.ntmps70
          go_wp2_with (first | ((with_reducible refine gate_callee (f := 81) rfl ?_); refine goesL_ (some 8) rfl rfl Tryd.func81 (by kernel_rfl) rfl #[.int .i64 a0] rfl (by (try simp only [zMa, zMc, zMn]); first | done | rfl | (simp only [zLd, zLt]; rfl)) ?_; (with_reducible refine (cmp_isNaN_int.calls a0 false _ A3.out).mono ?_); rintro e w' ⟨rfl, ⟨nd, rfl⟩⟩; refine ⟨_, rfl, ?_⟩) | ((with_reducible refine gate_callee (f := 81) rfl ?_); refine goesL_ (some 10) rfl rfl Tryd.func81 (by kernel_rfl) rfl #[.int .i64 a1] rfl (by (try simp only [zMa, zMc, zMn]); first | done | rfl | (simp only [zLd, zLt]; rfl)) ?_; (with_reducible refine (cmp_isNaN_int.calls a1 false _ A4.out).mono ?_); rintro e w' ⟨rfl, ⟨nd, rfl⟩⟩; refine ⟨_, rfl, ?_⟩))
          go_ret
          exact ⟨by first | rfl | (simp; done) | (simp [*]; done), by repeat (first | exact Drawn0.refl _ | apply Drawn0.step)⟩
        · rw [if_neg c9] at H
          have c9b0 : decide (a1 < a0) = false := decide_eq_false c9
          clear c9
          obtain rfl := zOi H
          go_enter Tryd.func70, Tryd.ntmps70
          go_wp2_with (first | ((with_reducible refine gate_callee (f := 81) rfl ?_); refine goesL_ (some 8) rfl rfl Tryd.func81 (by kernel_rfl) rfl #[.int .i64 a0] rfl (by (try simp only [zMa, zMc, zMn]); first | done | rfl | (simp only [zLd, zLt]; rfl)) ?_; (with_reducible refine (cmp_isNaN_int.calls a0 false _ A3.out).mono ?_); rintro e w' ⟨rfl, ⟨nd, rfl⟩⟩; refine ⟨_, rfl, ?_⟩) | ((with_reducible refine gate_callee (f := 81) rfl ?_); refine goesL_ (some 10) rfl rfl Tryd.func81 (by kernel_rfl) rfl #[.int .i64 a1] rfl (by (try simp only [zMa, zMc, zMn]); first | done | rfl | (simp only [zLd, zLt]; rfl)) ?_; (with_reducible refine (cmp_isNaN_int.calls a1 false _ A4.out).mono ?_); rintro e w' ⟨rfl, ⟨nd, rfl⟩⟩; refine ⟨_, rfl, ?_⟩))
          go_ret
          exact ⟨by first | rfl | (simp; done) | (simp [*]; done), by repeat (first | exact Drawn0.refl _ | apply Drawn0.step)⟩



section
variable {P : Program} {ops : Array Oper} {md : Region.Mode} {w : World}
def noDefer : Op → Bool
  | .defer _ => false
  | _ => true
theorem noDefer_ne {o : Op} (h : noDefer o = true) (c : Call) : o ≠ .defer c := by
  intro e; subst e; cases h
end
section
variable {P : Program} {ops : Array Oper} {md : Region.Mode} {Q : Exit → Act → World → Prop}
theorem oper_round {o : Oper} (hd : noDefer o.op = true) (r n : Nat) {a : Act} {w : World} {K K' : Act → World → Prop} (hK : ∀ a w, K a w → K' a w) (h : o.wp P a w K Q) : o.wpIn (Fence.wide.inRound r) n P a w K' Q := by
  refine ⟨fun _ _ => trivial, ?_⟩
  show o.uponIn (Fence.wide.inRound r) n P a K' Q ((o.semAt (some r) a.eval).run P w)
  rw [Oper.semAt_some r a.eval o (fun c => noDefer_ne hd c)]
  unfold Oper.wp at h
  generalize (execOp a.eval o).run P w = x at h ⊢
  cases x with
  | ok y w' =>
    cases y with
    | value v => exact hK _ _ h
    | skip => exact hK _ _ h
    | defer d => exact hK _ _ h
    | enter f args => exact ⟨fun h => by simp [Fence.wide] at h, CallsIn.inRound r (callsIn_wide.2 (h.mono fun e w'' he => by cases e <;> first | exact hK _ _ he | exact he))⟩
    | row row args => exact ⟨fun h => by simp [Fence.wide] at h, fun c cs _ => let ⟨v, w', q, s⟩ := h c cs; ⟨v, w', hK _ _ q, stepsIn_wide.2 s⟩⟩
    | _ => exact h.elim
  | halt x w' => cases x <;> exact h
theorem op_round (hQ : ¬ LetsOut Q) {i : Nat} (hd : ∀ o : Oper, ops[i]? = some o → noDefer o.op = true) (r n : Nat) {a : Act} {w : World} {K K' : Act → World → Prop} (hK : ∀ a w, K a w → K' a w) (h : wpOp P ops Q i K a w) : wpOpIn (Fence.wide.inRound r) n P ops Q i K' a w := by
  unfold wpOp at h
  unfold wpOpIn
  cases ho : ops[i]? with
  | none => rw [ho] at h; exact hK _ _ h
  | some o =>
    rw [ho] at h
    simp only at h ⊢
    split
    · rename_i hw
      rw [if_pos hw] at h
      rcases h with h | h
      · exact oper_round (hd o ho) r n hK h
      · exact absurd h.2 hQ
    · rename_i hw
      rw [if_neg hw] at h
      exact ⟨fun _ _ => trivial, hK _ _ h⟩
set_option linter.unusedVariables false in
theorem any_round (hQ : ¬ LetsOut Q) (hd : ∀ (i : Nat) (o : Oper), ops[i]? = some o → noDefer o.op = true) (r n : Nat) : ∀ (fuel : Nat) (listed : Array Bool) (a : Act) (w : World), wpAny P md ops Q fuel listed a w → wpAnyIn (Fence.wide.inRound r) n P md ops Q fuel listed a w
  | 0, _, _, _, h => h
  | fuel + 1, listed, a, w, h => ⟨h.1, fun i hi => op_round hQ (hd i) r n (fun a' w' => any_round hQ hd r n fuel _ a' w') (h.2 i hi)⟩
theorem region_round {id r n : Nat} {l : List Oper} {a : Act} {w : World} {Q' : Exit → Act → World → Prop} (R : Act → World → Prop) (hm : P.follows .mixedOrders = true) (hd : l.all (fun o => noDefer o.op) = true)
    (h : wpAny P .any l.toArray (fun e a w => e = .normal ∧ R a w) l.toArray.size (Array.replicate l.toArray.size false) a w.drew) (hR : ∀ a w, R a w → Q' .normal a w) : (Code.region id l.toArray true).wpIn (Fence.wide.inRound r) n P Q' a w := by
  have hd' : ∀ (i : Nat) (o : Oper), l.toArray[i]? = some o → noDefer o.op = true := fun i o ho => List.all_eq_true.1 hd o (by
    rw [List.getElem?_toArray] at ho
    exact List.mem_of_getElem? ho)
  refine wpIn_mono (Q := fun e a w => e = .normal ∧ R a w) (wpIn_region_any hm (any_round (by rintro ⟨_, _, h, _⟩; cases h) hd' r n _ _ _ _ h)) ?_
  rintro e a w ⟨rfl, h⟩
  exact hR a w h
end
def KeepOk (ok : Nat → Prop) (W W' : World) : Prop := ∀ k, ok k → W'.heap[k]? = W.heap[k]?
theorem KeepOk.refl (ok : Nat → Prop) (W : World) : KeepOk ok W W := fun _ _ => rfl
theorem KeepOk.trans {ok : Nat → Prop} {A B C : World} (h : KeepOk ok A B) (k : KeepOk ok B C) : KeepOk ok A C := fun i hi => (k i hi).trans (h i hi)
theorem KeepOk.turn {ok : Nat → Prop} {w : World} (hok : ∀ k, ok k → k < w.heap.size) (W : World) (l : Nat) (o o' : Obj) (hl : w.heap.size ≤ l) (_ : W.heap[l]? = some o) (_ : o.isCells = false) (_ : o.isWalk = false) : KeepOk ok W (W.putObj l o') := by
  intro k hk
  have := hok k hk
  exact World.putObj_heap_other (by omega)
theorem KeepOk.cell {ok : Nat → Prop} {W W' : World} (h : KeepOk ok W W') {b j : Nat} (hb : ok b) : W'.cell? ⟨b, j, none⟩ = W.cell? ⟨b, j, none⟩ := by
  simp only [World.cell?, h b hb]
def bwd (L : Nat) : (k : Nat) → k ≤ L → List { i : Nat // i < L }
  | 0, _ => []
  | k + 1, h => bwd L k (Nat.le_of_succ_le h) ++ [⟨L - 1 - k, by omega⟩]
theorem bwd_length (L : Nat) : ∀ k h, (bwd L k h).length = k
  | 0, _ => rfl
  | k + 1, h => by simp [bwd, bwd_length L k]
theorem bwd_mem (L : Nat) : ∀ k h (i : Nat) (hi : i < L), L ≤ i + k → (⟨i, hi⟩ : { i : Nat // i < L }) ∈ bwd L k h
  | 0, _, i, hi, hk => by omega
  | k + 1, h, i, hi, hk => by
    unfold bwd
    rcases Nat.lt_or_ge (i + k) L with h2 | h2
    · have : i = L - 1 - k := by omega
      subst this
      simp
    · exact List.mem_append_left _ (bwd_mem L k _ i hi h2)
theorem bwd_last (L : Nat) {k : Nat} {h : k ≤ L} {ini : List { i : Nat // i < L }} {last : { i : Nat // i < L }} (e : bwd L k h = ini ++ [last]) : ∃ k' h', k = k' + 1 ∧ ini = bwd L k' h' ∧ last.1 = L - 1 - k' := by
  cases k with
  | zero => simp [bwd] at e
  | succ k' =>
    unfold bwd at e
    obtain ⟨e1, e2⟩ := List.append_inj' e rfl
    refine ⟨k', Nat.le_of_succ_le h, rfl, e1.symm, ?_⟩
    have : (⟨L - 1 - k', by omega⟩ : { i : Nat // i < L }) = last := by simpa using e2
    rw [← this]
attribute [local go_sem] Oper.semAt_some
theorem slices_Backward_uint32_uint32.closure (F : Fence) (n : Nat) (h8 : F.fn 82) (hro : F.round = none) (hn : 1 ≤ n) (l Bs cap : Nat) (A : Option Addr) (xs : List Int) (hcap : xs.length ≤ cap) (ok : Nat → Prop) (hBok : ok Bs) (J Jx : List { i : Nat // i < xs.length } → World → Prop)
    (hY : ∀ pre x W, J pre W → pre.length < xs.length → YieldAt F (n - 1) Tryd.prog l #[.int .i64 (x.1 : Int), .int .u32 (rd xs (x.1 : Int))] W fun e W' =>
      (e = .returned (.bool true) ∧ J (pre ++ [x]) W' ∧ KeepOk ok W W') ∨ (e = .returned (.bool false) ∧ Jx (pre ++ [x]) W'))
    (W : World) (hBs : W.cell? ⟨Bs, 0, none⟩ = some (.slice A xs.length cap)) (hF : Kd.F (Kd.int .u32) W ok A xs.length xs) (h0 : J [] W) :
    CallsIn F n Tryd.prog 82 #[.func (.yield l) #[] #[], .pointer (some ⟨Bs, 0, none⟩)] W fun e W' => (∃ v, e = .returned v) ∧
      ((∃ ys, ys = bwd xs.length xs.length (Nat.le_refl _) ∧ J ys W') ∨ (∃ pre, (∃ k h, pre = bwd xs.length k h) ∧ Jx pre W')) := by
  have HF := zMk hF
  have hmax : xs.length ≤ 9223372036854775807 := Kd.F_max hF
  have HJ0 := zMk h0
  clear hF h0
  refine callsIn_of_wp Tryd.func82 rfl h8 ?_ hro
  simp only [Tryd.ntmps82, List.size_toArray, zLc, zLn, Nat.reduceAdd, Nat.reduceSub, Array.replicate_succ, Array.replicate_zero, List.push_toArray, List.append_toArray, List.nil_append, List.cons_append]
  have hw0 : IntKind.i64.wrap ((xs.length : Int) - 1) = (xs.length : Int) - 1 := by rw [i64_w]; unfold wrap64; omega
  gi_wp2
  gi_loopw [3] (fun i wr => ∃ (k : Nat) (h : k ≤ xs.length), i = .int .i64 ((xs.length : Int) - 1 - k) ∧ Aside0 (J (bwd xs.length k h) wr) ∧ Aside0 (KeepOk ok W wr))
    (fun i _ => (intOf i + 1).toNat)
  case atStart => exact ⟨0, Nat.zero_le _, by simp, by simpa [bwd] using HJ0, ⟨KeepOk.refl _ _⟩⟩
  case round =>
    obtain ⟨k, hk, rfl, hJs, hkp⟩ := hrel
    have hb2 : wr.cell? ⟨Bs, 0, none⟩ = some (.slice A xs.length cap) := (hkp.out.cell hBok).trans hBs
    by_cases hlt : k < xs.length
    · obtain ⟨j, hj⟩ : ∃ j : Nat, xs.length - 1 - k = j := ⟨_, rfl⟩
      have hjL : j < xs.length := by omega
      have hjz : (xs.length : Int) - 1 - k = (j : Int) := by omega
      rw [hjz]
      obtain ⟨fn, tmps, assign, body, hy, hR⟩ := hY _ ⟨j, hjL⟩ wr hJs.out (by rw [bwd_length]; exact hlt)
      have hC := Kd.F_now (Kd.F_step HF.out (fun k hk _ => hkp.out k hk))
      obtain ⟨ad, e, hx⟩ := zAi hC (j : Int) (by omega) (by omega)
      subst e
      have hjL' : (j : Int) < (xs.length : Int) := by omega
      have HR := zMk hR
      have Hj := zMk hj
      have Hjz := zMk hjz
      have Hk := zMk hlt
      clear hC hR hj hjz hlt
      dsimp only at hy
      rw [zTn] at hx
      have p4 : decide ((j : Int) < (xs.length : Int)) = true := decide_eq_true hjL'
      gi_wp2
      refine HR.out.mono ?_
      rintro e W3 (⟨rfl, hJ3, hk3⟩ | ⟨rfl, hJx3⟩)
      · have hw1 : IntKind.i64.wrap ((j : Int) - 1) = (j : Int) - 1 := by rw [i64_w]; unfold wrap64; omega
        gi_wp2
        go_roundw
        case rel => exact ⟨k + 1, Hk.out, by have := Hjz.out; congr 1; omega, ⟨by unfold bwd; simp only [Hj.out]; exact hJ3⟩, ⟨hkp.out.trans hk3⟩⟩
        case measure => simp [intOf] <;> omega
      · gi_wp2
        refine bodyPost_ret (results_none rfl _ _ _) rfl ?_
        exact ⟨⟨_, rfl⟩, .inr ⟨_, ⟨k + 1, Hk.out, rfl⟩, by unfold bwd; simp only [Hj.out]; exact hJx3⟩⟩
    · obtain rfl : k = xs.length := by omega
      have hj0 : (xs.length : Int) - 1 - (xs.length : Int) = -1 := by omega
      rw [hj0]
      clear hj0
      gi_wp2
      go_end0
      exact ⟨⟨_, rfl⟩, .inl ⟨_, rfl, hJs.out⟩⟩
theorem slices_Backward_uint32_uint32.calls (A0 : Option Addr) (n c0 : Nat) (w : World) :
    Calls Tryd.prog 71 #[.slice A0 n c0] w fun e w' => e = .returned (.func (.func 82) #[] #[.pointer (some ⟨w.heap.size, 0, none⟩)]) ∧ w' = w.alloc (.cells #[.slice A0 n c0] 22) := by
  go_enter Tryd.func71, Tryd.ntmps71
  go_wp2
  go_ret
  exact ⟨rfl, rfl⟩
theorem slices_Backward_uint32_uint32.stops (F : Fence) (n : Nat) (h8 : F.fn 82) (hro : F.round = none) (hn : 1 ≤ n) (Bs cap : Nat) (A : Option Addr) (xs : List Int) (hcap : xs.length ≤ cap) (ok : Nat → Prop) (hBok : ok Bs) (w : World) (hok : ∀ k, ok k → k < w.heap.size)
    (hc : w.cell? ⟨Bs, 0, none⟩ = some (.slice A xs.length cap)) (hF : Kd.F (Kd.int .u32) w ok A xs.length xs) :
    SeqStopsK F n Tryd.prog 82 #[.pointer (some ⟨Bs, 0, none⟩)] (fun x : { i : Nat // i < xs.length } => #[Value.int .i64 (x.1 : Int), Value.int .u32 (rd xs (x.1 : Int))]) (KeepOk ok) (fun ys => ys = bwd xs.length xs.length (Nat.le_refl _))
      (fun pre => ∃ k h, pre = bwd xs.length k h) xs.length w := fun l J Jx W hW _ _ hY h0 =>
  slices_Backward_uint32_uint32.closure F n h8 hro hn l Bs cap A xs hcap ok hBok J Jx hY W ((hW.cell (p := ⟨Bs, 0, none⟩) (hok _ hBok)).trans hc) (Kd.F_step hF (fun k _ hlt => hW.block k hlt)) h0


def cmp_isNaN_uint32.f (a0 : Int) : Option (Bool) := some (a0 != a0)
theorem cmp_isNaN_uint32.calls (a0 : Int) (r : Bool) (w : World) (h : cmp_isNaN_uint32.f a0 = some r) :
    Calls Tryd.prog 83 #[.int .u32 a0] w fun e w' => e = .returned (.bool r) ∧ Drawn0 w w' := by
  have H : (some (a0 != a0)) = some r := h
  clear h
  obtain rfl := zOi H
  go_enter Tryd.func83, Tryd.ntmps83
  go_wp2
  go_ret
  exact ⟨by first | rfl | (simp; done) | (simp [*]; done), by repeat (first | exact Drawn0.refl _ | apply Drawn0.step)⟩


def cmp_Compare_uint32.f (a0 : Int) (a1 : Int) : Option (Int) := (cmp_isNaN_uint32.f a0).bind fun t126 => ((cmp_isNaN_uint32.f a1).bind fun t127 => (if t126 = true then (if t127 = true then (some 0) else (some (-1))) else (if t127 = true then (some 1) else (if a0 < a1 then (some (-1)) else (if a0 > a1 then (some 1) else (some 0))))))
theorem cmp_Compare_uint32.calls (a0 : Int) (a1 : Int) (r : Int) (w : World) (h : cmp_Compare_uint32.f a0 a1 = some r) :
    Calls Tryd.prog 72 #[.int .u32 a0, .int .u32 a1] w fun e w' => e = .returned (.int .i64 r) ∧ Drawn0 w w' := by
  have H : ((cmp_isNaN_uint32.f a0).bind fun t126 => ((cmp_isNaN_uint32.f a1).bind fun t127 => (if t126 = true then (if t127 = true then (some 0) else (some (-1))) else (if t127 = true then (some 1) else (if a0 < a1 then (some (-1)) else (if a0 > a1 then (some 1) else (some 0))))))) = some r := h
  clear h
  replace H := bnd H
  obtain ⟨t126, A30, H⟩ := H
  have A3 := zMk A30
  clear A30
  replace H := bnd H
  obtain ⟨t127, A40, H⟩ := H
  have A4 := zMk A40
  clear A40
  by_cases c5 : t126 = true
  · subst c5
    replace H : (if t127 = true then (some 0) else (some (-1))) = some r := by rw [if_pos rfl] at H; exact H
    by_cases c6 : t127 = true
    · subst c6
      replace H : (some 0) = some r := by rw [if_pos rfl] at H; exact H
      obtain rfl := zOi H
      go_enter Tryd.func72, Tryd.ntmps72
      go_wp2_with (first | ((with_reducible refine gate_callee (f := 83) rfl ?_); refine goesL_ (some 8) rfl rfl Tryd.func83 (by kernel_rfl) rfl #[.int .u32 a0] rfl (by (try simp only [zMa, zMc, zMn]); first | done | rfl | (simp only [zLd, zLt]; rfl)) ?_; (with_reducible refine (cmp_isNaN_uint32.calls a0 true _ A3.out).mono ?_); rintro e w' ⟨rfl, ⟨nd, rfl⟩⟩; refine ⟨_, rfl, ?_⟩) | ((with_reducible refine gate_callee (f := 83) rfl ?_); refine goesL_ (some 10) rfl rfl Tryd.func83 (by kernel_rfl) rfl #[.int .u32 a1] rfl (by (try simp only [zMa, zMc, zMn]); first | done | rfl | (simp only [zLd, zLt]; rfl)) ?_; (with_reducible refine (cmp_isNaN_uint32.calls a1 true _ A4.out).mono ?_); rintro e w' ⟨rfl, ⟨nd, rfl⟩⟩; refine ⟨_, rfl, ?_⟩))
      go_ret
      exact ⟨by first | rfl | (simp; done) | (simp [*]; done), by repeat (first | exact Drawn0.refl _ | apply Drawn0.step)⟩
    · replace c6 := Bool.eq_false_iff.mpr c6
      subst c6
      replace H : (some (-1)) = some r := by rw [if_neg (show ¬ (false = true) by decide)] at H; exact H
      obtain rfl := zOi H
      go_enter Tryd.func72, Tryd.ntmps72
      go_wp2_with (first | ((with_reducible refine gate_callee (f := 83) rfl ?_); refine goesL_ (some 8) rfl rfl Tryd.func83 (by kernel_rfl) rfl #[.int .u32 a0] rfl (by (try simp only [zMa, zMc, zMn]); first | done | rfl | (simp only [zLd, zLt]; rfl)) ?_; (with_reducible refine (cmp_isNaN_uint32.calls a0 true _ A3.out).mono ?_); rintro e w' ⟨rfl, ⟨nd, rfl⟩⟩; refine ⟨_, rfl, ?_⟩) | ((with_reducible refine gate_callee (f := 83) rfl ?_); refine goesL_ (some 10) rfl rfl Tryd.func83 (by kernel_rfl) rfl #[.int .u32 a1] rfl (by (try simp only [zMa, zMc, zMn]); first | done | rfl | (simp only [zLd, zLt]; rfl)) ?_; (with_reducible refine (cmp_isNaN_uint32.calls a1 false _ A4.out).mono ?_); rintro e w' ⟨rfl, ⟨nd, rfl⟩⟩; refine ⟨_, rfl, ?_⟩))
      go_ret
      exact ⟨by first | rfl | (simp; done) | (simp [*]; done), by repeat (first | exact Drawn0.refl _ | apply Drawn0.step)⟩
  · replace c5 := Bool.eq_false_iff.mpr c5
    subst c5
    replace H : (if t127 = true then (some 1) else (if a0 < a1 then (some (-1)) else (if a0 > a1 then (some 1) else (some 0)))) = some r := by rw [if_neg (show ¬ (false = true) by decide)] at H; exact H
    by_cases c7 : t127 = true
    · subst c7
      replace H : (some 1) = some r := by rw [if_pos rfl] at H; exact H
      obtain rfl := zOi H
      go_enter Tryd.func72, Tryd.ntmps72
      go_wp2_with (first | ((with_reducible refine gate_callee (f := 83) rfl ?_); refine goesL_ (some 8) rfl rfl Tryd.func83 (by kernel_rfl) rfl #[.int .u32 a0] rfl (by (try simp only [zMa, zMc, zMn]); first | done | rfl | (simp only [zLd, zLt]; rfl)) ?_; (with_reducible refine (cmp_isNaN_uint32.calls a0 false _ A3.out).mono ?_); rintro e w' ⟨rfl, ⟨nd, rfl⟩⟩; refine ⟨_, rfl, ?_⟩) | ((with_reducible refine gate_callee (f := 83) rfl ?_); refine goesL_ (some 10) rfl rfl Tryd.func83 (by kernel_rfl) rfl #[.int .u32 a1] rfl (by (try simp only [zMa, zMc, zMn]); first | done | rfl | (simp only [zLd, zLt]; rfl)) ?_; (with_reducible refine (cmp_isNaN_uint32.calls a1 true _ A4.out).mono ?_); rintro e w' ⟨rfl, ⟨nd, rfl⟩⟩; refine ⟨_, rfl, ?_⟩))
      go_ret
      exact ⟨by first | rfl | (simp; done) | (simp [*]; done), by repeat (first | exact Drawn0.refl _ | apply Drawn0.step)⟩
    · replace c7 := Bool.eq_false_iff.mpr c7
      subst c7
      replace H : (if a0 < a1 then (some (-1)) else (if a0 > a1 then (some 1) else (some 0))) = some r := by rw [if_neg (show ¬ (false = true) by decide)] at H; exact H
      by_cases c8 : a0 < a1
      · rw [if_pos c8] at H
        have c8b0 : decide (a0 < a1) = true := decide_eq_true c8
        clear c8
        obtain rfl := zOi H
        go_enter Tryd.func72, Tryd.ntmps72
        go_wp2_with (first | ((with_reducible refine gate_callee (f := 83) rfl ?_); refine goesL_ (some 8) rfl rfl Tryd.func83 (by kernel_rfl) rfl #[.int .u32 a0] rfl (by (try simp only [zMa, zMc, zMn]); first | done | rfl | (simp only [zLd, zLt]; rfl)) ?_; (with_reducible refine (cmp_isNaN_uint32.calls a0 false _ A3.out).mono ?_); rintro e w' ⟨rfl, ⟨nd, rfl⟩⟩; refine ⟨_, rfl, ?_⟩) | ((with_reducible refine gate_callee (f := 83) rfl ?_); refine goesL_ (some 10) rfl rfl Tryd.func83 (by kernel_rfl) rfl #[.int .u32 a1] rfl (by (try simp only [zMa, zMc, zMn]); first | done | rfl | (simp only [zLd, zLt]; rfl)) ?_; (with_reducible refine (cmp_isNaN_uint32.calls a1 false _ A4.out).mono ?_); rintro e w' ⟨rfl, ⟨nd, rfl⟩⟩; refine ⟨_, rfl, ?_⟩))
        go_ret
        exact ⟨by first | rfl | (simp; done) | (simp [*]; done), by repeat (first | exact Drawn0.refl _ | apply Drawn0.step)⟩
      · rw [if_neg c8] at H
        have c8b0 : decide (a0 < a1) = false := decide_eq_false c8
        clear c8
        by_cases c9 : a0 > a1
        · rw [if_pos c9] at H
          have c9b0 : decide (a1 < a0) = true := decide_eq_true c9
          clear c9
          obtain rfl := zOi H
          go_enter Tryd.func72, Tryd.ntmps72
          go_wp2_with (first | ((with_reducible refine gate_callee (f := 83) rfl ?_); refine goesL_ (some 8) rfl rfl Tryd.func83 (by kernel_rfl) rfl #[.int .u32 a0] rfl (by (try simp only [zMa, zMc, zMn]); first | done | rfl | (simp only [zLd, zLt]; rfl)) ?_; (with_reducible refine (cmp_isNaN_uint32.calls a0 false _ A3.out).mono ?_); rintro e w' ⟨rfl, ⟨nd, rfl⟩⟩; refine ⟨_, rfl, ?_⟩) | ((with_reducible refine gate_callee (f := 83) rfl ?_); refine goesL_ (some 10) rfl rfl Tryd.func83 (by kernel_rfl) rfl #[.int .u32 a1] rfl (by (try simp only [zMa, zMc, zMn]); first | done | rfl | (simp only [zLd, zLt]; rfl)) ?_; (with_reducible refine (cmp_isNaN_uint32.calls a1 false _ A4.out).mono ?_); rintro e w' ⟨rfl, ⟨nd, rfl⟩⟩; refine ⟨_, rfl, ?_⟩))
          go_ret
          exact ⟨by first | rfl | (simp; done) | (simp [*]; done), by repeat (first | exact Drawn0.refl _ | apply Drawn0.step)⟩
        · rw [if_neg c9] at H
          have c9b0 : decide (a1 < a0) = false := decide_eq_false c9
          clear c9
          obtain rfl := zOi H
          go_enter Tryd.func72, Tryd.ntmps72
          go_wp2_with (first | ((with_reducible refine gate_callee (f := 83) rfl ?_); refine goesL_ (some 8) rfl rfl Tryd.func83 (by kernel_rfl) rfl #[.int .u32 a0] rfl (by (try simp only [zMa, zMc, zMn]); first | done | rfl | (simp only [zLd, zLt]; rfl)) ?_; (with_reducible refine (cmp_isNaN_uint32.calls a0 false _ A3.out).mono ?_); rintro e w' ⟨rfl, ⟨nd, rfl⟩⟩; refine ⟨_, rfl, ?_⟩) | ((with_reducible refine gate_callee (f := 83) rfl ?_); refine goesL_ (some 10) rfl rfl Tryd.func83 (by kernel_rfl) rfl #[.int .u32 a1] rfl (by (try simp only [zMa, zMc, zMn]); first | done | rfl | (simp only [zLd, zLt]; rfl)) ?_; (with_reducible refine (cmp_isNaN_uint32.calls a1 false _ A4.out).mono ?_); rintro e w' ⟨rfl, ⟨nd, rfl⟩⟩; refine ⟨_, rfl, ?_⟩))
          go_ret
          exact ⟨by first | rfl | (simp; done) | (simp [*]; done), by repeat (first | exact Drawn0.refl _ | apply Drawn0.step)⟩



section
attribute [local go_sem] Oper.semAt_some
def cmpI (a b : Int) : Int := if a < b then -1 else if a > b then 1 else 0
def cmpTop (a b : List Int) : Nat → Int
  | 0 => 0
  | n + 1 => if a.getD n 0 = b.getD n 0 then cmpTop a b n else cmpI (a.getD n 0) (b.getD n 0)
def n_Cmp.f (l0 l1 : List Int) : Option Int := some (if cutLen l0 l0.length = cutLen l1 l1.length then cmpTop l0 l1 (cutLen l0 l0.length) else cmpI (cutLen l0 l0.length : Nat) (cutLen l1 l1.length : Nat))
theorem cmpI_int (a b : Int) : cmp_Compare_int.f a b = some (cmpI a b) := by
  unfold cmp_Compare_int.f cmp_isNaN_int.f cmpI
  simp only [bne_self_eq_false, zOb, Bool.false_eq_true, if_false]
  split
  · rfl
  · split <;> rfl
theorem cmpI_u32 (a b : Int) : cmp_Compare_uint32.f a b = some (cmpI a b) := by
  unfold cmp_Compare_uint32.f cmp_isNaN_uint32.f cmpI
  simp only [bne_self_eq_false, zOb, Bool.false_eq_true, if_false]
  split
  · rfl
  · split <;> rfl
theorem cmpTop_zero (a b : List Int) : ∀ n, (∀ i, i < n → a.getD i 0 = b.getD i 0) → cmpTop a b n = 0
  | 0, _ => rfl
  | n + 1, h => by
    unfold cmpTop
    rw [if_pos (h n (Nat.lt_succ_self n))]
    exact cmpTop_zero a b n fun i hi => h i (Nat.lt_succ_of_lt hi)
theorem cmpTop_at (a b : List Int) : ∀ n j, j < n → a.getD j 0 ≠ b.getD j 0 → (∀ i, j < i → i < n → a.getD i 0 = b.getD i 0) → cmpTop a b n = cmpI (a.getD j 0) (b.getD j 0)
  | 0, _, hj, _, _ => absurd hj (Nat.not_lt_zero _)
  | n + 1, j, hj, hne, h => by
    unfold cmpTop
    rcases Nat.lt_or_ge j n with h1 | h1
    · rw [if_pos (h n h1 (Nat.lt_succ_self n))]
      exact cmpTop_at a b n j h1 hne fun i hi hi2 => h i hi (Nat.lt_succ_of_lt hi2)
    · obtain rfl : j = n := by omega
      rw [if_neg hne]
theorem n_Cmp.calls (A0 : Option Addr) (c0 : Nat) (l0 : List Int) (A1 : Option Addr) (c1 : Nat) (l1 : List Int) (r : Int) (w : World) (hr0 : Kd.C (Kd.int .u32) w A0 l0.length l0) (hc0 : l0.length ≤ c0) (hr1 : Kd.C (Kd.int .u32) w A1 l1.length l1) (hc1 : l1.length ≤ c1) (h : n_Cmp.f l0 l1 = some r) :
    Calls Tryd.prog 49 #[.slice A0 l0.length c0, .slice A1 l1.length c1] w fun e w' => e = .returned (.int .i64 r) ∧ Below w.heap.size w w' := by
  have HR0 := zMk hr0
  have HC0 := zMk hc0
  have HR1 := zMk hr1
  have HC1 := zMk hc1
  have HH := zMk h
  clear hr0 hc0 hr1 hc1 h
  obtain ⟨m, hm⟩ : ∃ m, cutLen l0 l0.length = m := ⟨_, rfl⟩
  obtain ⟨n, hn⟩ : ∃ n, cutLen l1 l1.length = n := ⟨_, rfl⟩
  have kc0 : ∀ W : World, Kd.C (Kd.int .u32) W A0 l0.length l0 → Calls Tryd.prog 56 #[.slice A0 l0.length c0] W fun e w' => e = .returned (.slice A0 m c0) ∧ w' = W := fun W h => (n_cut.exact A0 c0 l0 W h HC0.out).mono (fun e w' ⟨he, hw⟩ => ⟨by rw [he, hm], hw.symm⟩)
  have kc1 : ∀ W : World, Kd.C (Kd.int .u32) W A1 l1.length l1 → Calls Tryd.prog 56 #[.slice A1 l1.length c1] W fun e w' => e = .returned (.slice A1 n c1) ∧ w' = W := fun W h => (n_cut.exact A1 c1 l1 W h HC1.out).mono (fun e w' ⟨he, hw⟩ => ⟨by rw [he, hn], hw.symm⟩)
  have K0 := zMk kc0
  have K1 := zMk kc1
  have HM := zMk hm
  have HN := zMk hn
  clear kc0 kc1 hm hn
  refine (callsIn_wide (n := 3)).1 ?_
  refine callsIn_of_wp_marks Tryd.func49 rfl trivial ?_ rfl
  refine wpIn_wide.2 ?_
  simp only [Tryd.ntmps49, List.size_toArray, zLc, zLn, Nat.reduceAdd, Nat.reduceSub, Array.replicate_succ, Array.replicate_zero, List.push_toArray, List.append_toArray, List.nil_append, List.cons_append]
  have bB := Boxed.new w 22 (.slice A1 l1.length c1)
  have bR := Boxed.new (w.alloc (.cells #[.slice A1 l1.length c1] 22)) 3 (.int .i64 0)
  rw [World.size_alloc] at bR
  have hB0 : Below w.heap.size w ((w.alloc (.cells #[.slice A1 l1.length c1] 22)).alloc (.cells #[.int .i64 0] 3)) := ((Below.refl _ w).alloc (Nat.le_refl _) _).alloc (by simp) _
  have bB := bB.alloc (.cells #[.int .i64 0] 3)
  go_wp2
  generalize ((w.alloc (.cells #[.slice A1 l1.length c1] 22)).alloc (.cells #[.int .i64 0] 3)) = W0 at bB bR hB0 ⊢
  have bB2 := bB.set (.slice A1 n c1)
  have bR2 := bR.other (B' := w.heap.size) (by omega) (.slice A1 n c1)
  have hB2 : Below w.heap.size w (W0.setCell ⟨w.heap.size, 0, none⟩ (.slice A1 n c1)) := hB0.setCell (p := ⟨w.heap.size, 0, none⟩) (Nat.le_refl _) _
  obtain ⟨W2, hW2⟩ : ∃ W2, W0.setCell ⟨w.heap.size, 0, none⟩ (.slice A1 n c1) = W2 := ⟨_, rfl⟩
  rw [hW2] at bB2 bR2 hB2
  have hR2 : (w.heap.size + 1) < W2.heap.size := bR2.lt
  have cB := bB.cell
  have fB := bB.frozen
  have cB2 := bB2.cell
  have cR2 := bR2.cell
  have fR2 := bR2.frozen
  have hml := cutLen_le l0 l0.length
  have hnl := cutLen_le l1 l1.length
  rw [HM.out] at hml
  rw [HN.out] at hnl
  have hm0 := HR0.out.2.1
  have hn0 := HR1.out.2.1
  have HR0' := HR0
  have HR1' := HR1
  have HR0 := zMk (Kd.C_below HR0.out hB0)
  have HR1 := zMk (Kd.C_below HR1.out hB0)
  go_still_tail 5, (by kernel_rfl)
  show wpStill _ _ W0.drew _ _ _
  still_call (K0.out W0.drew (zCd HR0.out))
  repeat still_step
  still_call (K1.out W0.drew (zCd HR1.out))
  repeat still_step
  refine wpStill_nil ?_
  change wpList _ _ _ _ _ W0.drew
  by_cases hmn : m = n
  · have hz : (cmpI (m : Int) (n : Int) != 0) = false := by subst hmn; simp [cmpI]
    have hz0 : cmpI (m : Int) (n : Int) = 0 := by subst hmn; simp [cmpI]
    have HMN := zMk hmn
    clear hmn
    go_wp2_with (first | (go_at_call 70; refine (cmp_Compare_int.calls (m : Int) (n : Int) _ _ (cmpI_int _ _)).mono ?_; rintro e w' ⟨rfl, ⟨nd, rfl⟩⟩) | (go_at_call 71; refine (slices_Backward_uint32_uint32.calls _ _ _ _).mono ?_; rintro e w' ⟨rfl, rfl⟩))
    have hdb := zBn (Below.refl W2.heap.size W2) (1 + nd)
    have bB3 : Boxed (W2.drewN (1 + nd)) w.heap.size 22 (.slice A1 n c1) := (hdb.block _ bB2.lt).trans bB2
    have bR3 : Boxed (W2.drewN (1 + nd)) (w.heap.size + 1) 3 (.int .i64 0) := (hdb.block _ bR2.lt).trans bR2
    have hB3 : Below w.heap.size w (W2.drewN (1 + nd)) := zBn hB2 _
    have hs3 : (W2.drewN (1 + nd)).heap.size = W2.heap.size := by simp
    generalize W2.drewN (1 + nd) = W3 at hdb bB3 bR3 hB3 hs3 ⊢
    have hR3 : (w.heap.size + 1) < W3.heap.size := bR3.lt
    have bN := Boxed.new W3 22 (.slice A0 m c0)
    have hB3s := hB3.size
    have hW3s : (W3.alloc (.cells #[.slice A0 m c0] 22)).heap.size = W2.heap.size + 1 := by rw [World.size_alloc, hs3]
    rw [hs3] at bN hB3s hR3
    have hB4 : Below w.heap.size w (W3.alloc (.cells #[.slice A0 m c0] 22)) := hB3.alloc hB3.size _
    have hlt : (l0.take m).length = m := by rw [zLt]; omega
    have hF0 : Kd.F (Kd.int .u32) (W3.alloc (.cells #[.slice A0 m c0] 22)) (fun k => k < w.heap.size ∨ k = W2.heap.size) A0 (l0.take m).length (l0.take m) := Kd.F_mono (Kd.F_step (Kd.F_take (Kd.C_F (Kd.heap_int .u32) HR0'.out) hml) (fun k hk _ => hB4.block k hk)) (fun k hk => .inl hk)
    have hC1 : ∀ W, Below w.heap.size w W → ∀ i : Int, 0 ≤ i → i < (n : Int) → ∃ ad, A1 = some ad ∧ W.cell? (ad.add i.toNat) = some (.int .u32 (rd l1 i)) := fun W hW i h0 h1 => by
      have hc := Kd.C_below HR1'.out hW
      exact zAi hc i h0 (by omega)
    refine (wpIn_wide (n := 3)).1 ?_
    refine wpIn_rangeFunc_ownG (n := 3) rfl (by omega) (gf := 82) (lb := #[.pointer (some ⟨W2.heap.size, 0, none⟩)]) rfl trivial (enters_of Tryd.func82 (by kernel_rfl) rfl)
      (slices_Backward_uint32_uint32.stops Fence.wide 2 trivial rfl (by omega) W2.heap.size c0 A0 (l0.take m) (by have := HC0.out; omega) (fun k => k < w.heap.size ∨ k = W2.heap.size) (.inr rfl) _ (fun k hk => by rw [hW3s]; omega) (by rw [hlt]; exact bN.cell) hF0)
      KeepOk.trans (KeepOk.turn (fun k hk => by rw [hW3s]; omega)) (Below.refl _ _) (fun _ => rfl)
      (fun pre W => ((∀ p ∈ pre, rd l1 (p.1 : Int) = rd l0 (p.1 : Int)) ∧ Boxed W w.heap.size 22 (.slice A1 n c1) ∧ Boxed W (w.heap.size + 1) 3 (.int .i64 0)) ∧ Below w.heap.size w W)
      (fun c pre W => (c = .ret ∧ ∃ ini last, pre = ini ++ [last] ∧ (∀ p ∈ ini, rd l1 (p.1 : Int) = rd l0 (p.1 : Int)) ∧ rd l0 (last.1 : Int) ≠ rd l1 (last.1 : Int) ∧ W.cell? ⟨w.heap.size + 1, 0, none⟩ = some (.int .i64 (cmpI (rd l0 (last.1 : Int)) (rd l1 (last.1 : Int))))) ∧ Below w.heap.size w W)
      (OwnFrom.and (Own.from (fun s A B row hs hg hr => ⟨hs.1, hs.2.1.kept hg (fun e => by obtain ⟨o, ho, hc⟩ := hr _ e.symm; rw [show A.heap[w.heap.size]? = _ from hs.2.1] at ho; cases ho; simp [Obj.isCells] at hc), hs.2.2.kept hg (fun e => by obtain ⟨o, ho, hc⟩ := hr _ e.symm; rw [show A.heap[w.heap.size + 1]? = _ from hs.2.2] at ho; cases ho; simp [Obj.isCells] at hc)⟩) _) (ownFrom_below (Nat.le_refl _) (by rw [hW3s]; omega)))
      (fun c => OwnFrom.and (Own.from (fun s A B row hs hg hr => by obtain ⟨hc, ini, last, e1, e2, e3, e4⟩ := hs; exact ⟨hc, ini, last, e1, e2, e3, cell_kept e4 hg hr⟩) _) (ownFrom_below (Nat.le_refl _) (by rw [hW3s]; omega)))
      ⟨⟨by simp, bB3.alloc _, bR3.alloc _⟩, hB4⟩
      (fun x => { tmps := #[.slice A0 m c0, .slice A1 l1.length c1, undef, .pointer (some ⟨w.heap.size, 0, none⟩), .pointer (some ⟨w.heap.size + 1, 0, none⟩), .int .i64 0, .int .i64 (x.1 : Int), .int .u32 (rd (l0.take m) (x.1 : Int)), .slice A0 l0.length c0, .slice A0 m c0, .slice A1 l1.length c1, .slice A1 n c1, .slice A0 m c0, .int .i64 m, .slice A1 n c1, .int .i64 n, .int .i64 0, .int .i64 0, .bool false, undef, .slice A0 m c0, .func (.func 82) #[] #[.pointer (some ⟨W2.heap.size, 0, none⟩)], .int .i64 (x.1 : Int), .int .u32 (rd (l0.take m) (x.1 : Int)), undef, undef, undef, undef, undef, undef, undef, undef, undef, undef, undef, undef], defers := [] }) ?assign ?body ?done ?stop
    case assign =>
      intro l x W K hK
      gi_wp2
      exact hK
    case body =>
      rintro l pre ⟨x, hx⟩ W ⟨⟨hp, hb, hr⟩, hB⟩ _
      rw [hlt] at hx
      have hxn : x < n := by have := HMN.out; omega
      obtain ⟨ad1, e1, hcx⟩ := hC1 W hB (x : Int) (by omega) (by omega)
      subst e1
      have hbc := hb.cell
      have hrc := hr.cell
      have hrf := hr.frozen
      have p4 : decide ((x : Int) < (n : Int)) = true := decide_eq_true (by omega)
      have hrd : rd (l0.take m) (x : Int) = rd l0 (x : Int) := by unfold rd; simp [List.getD_eq_getElem?_getD, List.getElem?_take, hx]
      simp only [hrd]
      rw [zTn] at hcx
      by_cases he : rd l0 (x : Int) = rd l1 (x : Int)
      · have q1 : (rd l0 (x : Int) != rd l1 (x : Int)) = false := by rw [he]; simp
        clear hrd
        gi_wp2
        exact ⟨KeepsFrom.refl _ _, KeepOk.refl _ _, ⟨fun p hp' => (List.mem_append.1 hp').elim (hp p) (fun e => by rw [List.mem_singleton.1 e]; exact he.symm), hb, hr⟩, hB⟩
      · have q1 : (rd l0 (x : Int) != rd l1 (x : Int)) = true := by simpa using he
        clear hrd
        gi_wp2_with (refine ⟨trivial, ?_⟩; gi_at_call 72; refine (CallsIn.inRound l (callsIn_wide.2 (cmp_Compare_uint32.calls (rd l0 (x : Int)) (rd l1 (x : Int)) _ _ (cmpI_u32 _ _)))).mono ?_; rintro e w' ⟨rfl, ⟨nd, rfl⟩⟩)
        refine ⟨?_, ⟨rfl, pre, _, rfl, hp, he, ?_⟩, (zBn hB _).setCell (p := ⟨w.heap.size + 1, 0, none⟩) (Nat.le_succ _) _⟩
        · have hdb2 := zBn (Below.refl W.heap.size W) nd
          exact (KeepsOthers.trans ⟨hdb2.size, fun i o h _ => (hdb2.block i (Array.getElem?_eq_some_iff.1 h).1).trans h⟩ (KeepsOthers.setCell _ _ _)).from _
        · exact World.cell?_setCell_same' _ _ _ (by rw [(zBn (Below.refl _ W) nd).cell (p := ⟨w.heap.size + 1, 0, none⟩) hr.lt, hrc]; rfl)
    case done =>
      rintro D ys W hD rfl ⟨⟨hp, hb, hr⟩, hB⟩ hK
      have hrc := hr.cell
      have hrf := hr.frozen
      go_wp2
      have hK' := (KeepsOthers.setCell W ⟨w.heap.size + 1, 0, none⟩ (.int .i64 0)).same D _ hK rfl
      refine ⟨by simp, .inl ⟨_, _, rfl, run_takeDeferred hK', ?_⟩⟩
      have hc5 := cell_kept (World.cell?_setCell_same' W ⟨w.heap.size + 1, 0, none⟩ (.int .i64 0) (by rw [hrc]; rfl)) (grownBy_putObj' _ D (.deferred none)) (fun r e => by cases e; exact ⟨_, hK', rfl⟩)
      have hz2 : (0 : Int) = r := by
        have h2 := HH.out
        unfold n_Cmp.f at h2
        rw [HM.out, HN.out, if_pos HMN.out] at h2
        rw [← zOi h2]
        refine (cmpTop_zero l0 l1 m fun i hi => ?_).symm
        have := hp ⟨i, by rw [hlt]; exact hi⟩ (bwd_mem _ _ _ i (by rw [hlt]; exact hi) (by omega))
        simpa [rd] using this.symm
      refine ⟨.int .i64 0, ?_, by rw [hz2], (hB.setCell (p := ⟨w.heap.size + 1, 0, none⟩) (Nat.le_succ _) _).trans (belowK_b (w := w) (Nat.le_refl _) _ D _ _ (by rw [hW3s] at hD; omega) hK' rfl rfl)⟩
      simp [results, Tryd.f49, go_sem, hc5]
    case stop =>
      rintro D c pre W hD ⟨k, hk, rfl⟩ ⟨⟨rfl, ini, last, e1, e2, e3, hcr⟩, hB⟩ hK
      refine (wpIn_wide (n := 3)).2 ?_
      go_wp2
      refine ⟨by simp, .inl ⟨_, _, rfl, run_takeDeferred hK, ?_⟩⟩
      have hc5 := cell_kept hcr (grownBy_putObj' _ D (.deferred none)) (fun r e => by cases e; exact ⟨_, hK, rfl⟩)
      obtain ⟨k', h', rfl, rfl, hlast⟩ := bwd_last _ e1
      have hr2 : cmpI (rd l0 (last.1 : Int)) (rd l1 (last.1 : Int)) = r := by
        have h2 := HH.out
        unfold n_Cmp.f at h2
        rw [HM.out, HN.out, if_pos HMN.out] at h2
        rw [← zOi h2]
        have hl1 := last.2
        refine (cmpTop_at l0 l1 m last.1 (by omega) (by simpa [rd] using e3) fun i hi hi2 => ?_).symm
        have := e2 ⟨i, by rw [hlt]; exact hi2⟩ (bwd_mem _ _ _ i (by rw [hlt]; exact hi2) (by omega))
        simpa [rd] using this.symm
      refine ⟨.int .i64 (cmpI (rd l0 (last.1 : Int)) (rd l1 (last.1 : Int))), ?_, by rw [hr2], hB.trans (belowK_b (w := w) (Nat.le_refl _) W D _ _ (by rw [hW3s] at hD; omega) hK rfl rfl)⟩
      simp [results, Tryd.f49, go_sem, hc5]
  · have hz : (cmpI (m : Int) (n : Int) != 0) = true := by
      unfold cmpI
      split
      · rfl
      · split
        · rfl
        · omega
    have HMN := zMk hmn
    clear hmn
    go_wp2_with (go_at_call 70; refine (cmp_Compare_int.calls (m : Int) (n : Int) _ _ (cmpI_int _ _)).mono ?_; rintro e w' ⟨rfl, ⟨nd, rfl⟩⟩)
    have hc5 : ((W2.drewN (1 + nd)).setCell ⟨w.heap.size + 1, 0, none⟩ (.int .i64 (cmpI m n))).cell? ⟨w.heap.size + 1, 0, none⟩ = some (.int .i64 (cmpI m n)) := World.cell?_setCell_same' _ _ _ (by rw [((zBn (Below.refl _ W2) (1 + nd)).cell (p := ⟨w.heap.size + 1, 0, none⟩) hR2), cR2]; rfl)
    have hr : cmpI m n = r := by have h2 := HH.out; unfold n_Cmp.f at h2; rw [HM.out, HN.out, if_neg HMN.out] at h2; exact zOi h2
    refine ⟨.int .i64 (cmpI m n), ?_, ?_⟩
    · simp [results, Tryd.f49, go_sem, hc5]
    · exact ⟨by rw [hr], (zBn hB2 _).setCell (p := ⟨w.heap.size + 1, 0, none⟩) (Nat.le_succ _) _⟩

end


theorem cmpI_step {a b x y P : Int} (ha : 0 ≤ a) (ha' : a < P) (hb : 0 ≤ b) (hb' : b < P) : cmpI (a + P * x) (b + P * y) = if x = y then cmpI a b else cmpI x y := by
  unfold cmpI
  rcases Int.lt_trichotomy x y with h | h | h
  · have h1 : P * x + P ≤ P * y := by have := Int.mul_le_mul_of_nonneg_left (show x + 1 ≤ y by omega) (show 0 ≤ P by omega); rw [Int.mul_add] at this; omega
    rw [if_pos (by omega), if_neg (by omega), if_pos h]
  · subst h
    rw [if_pos rfl]
    by_cases h2 : a < b
    · rw [if_pos (by omega), if_pos h2]
    · rw [if_neg (by omega), if_neg h2]
      by_cases h3 : a > b
      · rw [if_pos (by omega), if_pos h3]
      · rw [if_neg (by omega), if_neg h3]
  · have h1 : P * y + P ≤ P * x := by have := Int.mul_le_mul_of_nonneg_left (show y + 1 ≤ x by omega) (show 0 ≤ P by omega); rw [Int.mul_add] at this; omega
    rw [if_neg (by omega), if_pos (by omega), if_neg (by omega), if_neg (by omega), if_pos h]
theorem val_take_succ (l : List Int) (n : Nat) (h : n < l.length) : val (l.take (n + 1)) = val (l.take n) + 4294967296 ^ n * l.getD n 0 := by
  rw [List.take_succ_eq_append_getElem h, val_append, zLt, Nat.min_eq_left (by omega), getD_lt _ h]
  simp [val]
theorem cmpTop_val {a b : List Int} (ha : Limbs a) (hb : Limbs b) : ∀ n, n ≤ a.length → n ≤ b.length → cmpTop a b n = cmpI (val (a.take n)) (val (b.take n))
  | 0, _, _ => by simp [cmpTop, val, cmpI]
  | n + 1, h1, h2 => by
    have hla := val_lt (ha.take n)
    have hlb := val_lt (hb.take n)
    rw [zLt, Nat.min_eq_left (by omega)] at hla hlb
    rw [val_take_succ a n (by omega), val_take_succ b n (by omega), cmpI_step (val_nonneg (ha.take n)) hla (val_nonneg (hb.take n)) hlb, ← cmpTop_val ha hb n (by omega) (by omega)]
    simp only [cmpTop]
    (first | rfl | (unfold cmpI; split <;> split <;> simp_all) | skip)
theorem val_ge {l : List Int} (h : Limbs l) (ht : Trim l) (hn : l ≠ []) : (4294967296 : Int) ^ (l.length - 1) ≤ val l := by
  obtain ⟨n, hn'⟩ : ∃ n, l.length = n + 1 := ⟨l.length - 1, by have : l.length ≠ 0 := fun h0 => hn (List.eq_nil_of_length_eq_zero h0); omega⟩
  have h1 := val_take_succ l n (by omega)
  rw [← hn', List.take_length] at h1
  have h2 : l.getD n 0 ≠ 0 := by
    rcases ht with ht | ht
    · exact absurd ht hn
    · rw [hn'] at ht; exact ht
  have h3 := h.getD n
  have h4 := val_nonneg (h.take n)
  have h5 : (4294967296 : Int) ^ n * 1 ≤ 4294967296 ^ n * l.getD n 0 := Int.mul_le_mul_of_nonneg_left (by omega) (Int.le_of_lt (Int.pow_pos (by decide)))
  rw [h1, show l.length - 1 = n by omega]
  omega
theorem pow_up {m n : Nat} (h : m ≤ n) : (4294967296 : Int) ^ m ≤ 4294967296 ^ n := by
  obtain ⟨d, rfl⟩ := Nat.exists_eq_add_of_le h
  rw [Int.pow_add]
  have h1 : (0 : Int) < 4294967296 ^ d := Int.pow_pos (by decide)
  have h2 : (0 : Int) < 4294967296 ^ m := Int.pow_pos (by decide)
  have := Int.mul_le_mul_of_nonneg_left (show (1 : Int) ≤ 4294967296 ^ d by omega) (Int.le_of_lt h2)
  rw [Int.mul_one] at this
  exact this
theorem cmp_f (a b : List Int) (ha : Limbs a) (hb : Limbs b) : n_Cmp.f a b = some (cmpI (val a) (val b)) := by
  unfold n_Cmp.f
  rw [← cut_len a, ← cut_len b]
  congr 1
  have key : ∀ {a b : List Int}, Limbs a → Limbs b → (cut a).length < (cut b).length → val a < val b := by
    intro a b ha hb h
    have h1 := val_lt (cut_limbs ha)
    have h2 := val_ge (cut_limbs hb) (cut_trim b) (by intro h0; rw [h0] at h; exact absurd h (by simp))
    have h3 : (4294967296 : Int) ^ (cut a).length ≤ 4294967296 ^ ((cut b).length - 1) := pow_up (by omega)
    rw [cut_val] at h1 h2
    omega
  split
  · rename_i h
    rw [cmpTop_val ha hb _ (cut_length a) (by rw [h]; exact cut_length b)]
    rw [show a.take (cut a).length = cut a by rw [cut_len]; rfl, h, show b.take (cut b).length = cut b by rw [cut_len]; rfl, cut_val, cut_val]
  · rename_i h
    rcases Nat.lt_or_gt_of_ne h with h | h
    · have := key ha hb h
      unfold cmpI
      rw [if_pos (by omega), if_pos this]
    · have := key hb ha h
      unfold cmpI
      rw [if_neg (by omega), if_pos (by omega), if_neg (by omega), if_pos (by omega)]
theorem wraps_u32 (n : Int) (h₀ : 0 ≤ n) (h₁ : n < 2 ^ 32) : IntKind.u32.wrap n = n := by show n % 4294967296 = n; omega
theorem wraps_u64 (n : Int) (h₀ : 0 ≤ n) (h₁ : n < 2 ^ 64) : IntKind.u64.wrap n = n := by show n % 18446744073709551616 = n; omega

def w1_Light.l0 : Nat → List (List Int) → Int → Option (Bool)
  | 0, _, _ => none
  | k + 1, x0, x3 => if x3 < (x0.length : Int) then (if 0 ≤ x3 then (if ((rd_L1 x0 x3).length : Int) > 12 then (some false) else (w1_Light.l0 k x0 (wrap64 (x3 + 1)))) else (none)) else (some true)
def w1_Light.f (k : Nat) (l0 : List (List Int)) : Option (Bool) := w1_Light.l0 k l0 0
theorem w1_Light.calls (k : Nat) (A0 : Option Addr) (c0 : Nat) (l0 : List (List Int)) (r : Bool) (w : World) (hr0 : Kd.C (Kd.slice 58 (Kd.int .u32)) w A0 l0.length l0) (hc0 : l0.length ≤ c0) (h : w1_Light.f k l0 = some r) :
    Calls Tryd.prog 10 #[.slice A0 l0.length c0] w fun e w' => e = .returned (.bool r) ∧ Drawn0 w w' := by
  have HR0 := zMk hr0
  have HC0 := zMk hc0
  clear hr0 hc0
  have H : (w1_Light.l0 k l0 0) = some r := h
  clear h
  have H' := zMk H
  clear H
  go_enter Tryd.func10, Tryd.ntmps10
  go_wp2
  go_loopg [3] k (fun kq v3 w' => ∃ (x3_1 : Int), v3 = .int .i64 x3_1 ∧ Aside0 (w1_Light.l0 kq l0 x3_1 = some r) ∧ Aside0 (kq ≤ k) ∧ Drawn0 w w')
  case atStart => exact ⟨(0), (by first | rfl | (simp; done) | (simp [*]; done)), H', ⟨Nat.le_refl _⟩, by repeat (first | exact Drawn0.refl _ | apply Drawn0.step)⟩
  clear H'
  obtain ⟨x3_1, rfl, HA, HK1, ⟨m1, rfl⟩⟩ := hrel
  rcases gk with _ | k1
  · exact absurd HA.out (by simp [w1_Light.l0])
  have H := HA.out
  clear HA
  simp only [w1_Light.l0] at H
  by_cases c2 : x3_1 < (l0.length : Int)
  · rw [if_pos c2] at H
    have c2b0 : decide (x3_1 < (l0.length : Int)) = true := decide_eq_true c2
    clear c2
    by_cases c3 : 0 ≤ x3_1
    rotate_left
    · rw [if_neg c3] at H; exact absurd H (by simp)
    rw [if_pos c3] at H
    have c3b0 : decide (0 ≤ x3_1) = true := decide_eq_true c3
    clear c3
    by_cases c4 : ((rd_L1 l0 x3_1).length : Int) > 12
    · rw [if_pos c4] at H
      have c4b0 : decide (12 < ((rd_L1 l0 x3_1).length : Int)) = true := decide_eq_true c4
      have c4b1 : decide (12 < (rd_L1 l0 x3_1).length) = true := decide_eq_true (by omega)
      clear c4
      obtain rfl := zOi H
      have p492 : 0 ≤ (x3_1 : Int) := of_decide_eq_true (by assumption)
      have q492 : x3_1 < (l0.length : Int) := of_decide_eq_true (by assumption)
      obtain ⟨ad492, A492_0, c492_0, e492, hx492_0, hl492_0, hi492_0⟩ := at_L1 HR0.out x3_1 p492 q492
      cases e492
      have HR492_0 := zMk hi492_0
      have HC492_0 := zMk hl492_0
      clear hi492_0 hl492_0
      replace p492 := eq_true p492
      replace q492 := eq_true q492
      go_wp2
      go_ret
      exact ⟨by first | rfl | (simp; done) | (simp [*]; done), by repeat (first | exact Drawn0.refl _ | apply Drawn0.step)⟩
    · rw [if_neg c4] at H
      have c4b0 : decide (12 < ((rd_L1 l0 x3_1).length : Int)) = false := decide_eq_false c4
      have c4b1 : decide (12 < (rd_L1 l0 x3_1).length) = false := decide_eq_false (by omega)
      clear c4
      have H' := zMk H
      clear H
      have p492 : 0 ≤ (x3_1 : Int) := of_decide_eq_true (by assumption)
      have q492 : x3_1 < (l0.length : Int) := of_decide_eq_true (by assumption)
      obtain ⟨ad492, A492_0, c492_0, e492, hx492_0, hl492_0, hi492_0⟩ := at_L1 HR0.out x3_1 p492 q492
      cases e492
      have HR492_0 := zMk hi492_0
      have HC492_0 := zMk hl492_0
      clear hi492_0 hl492_0
      replace p492 := eq_true p492
      replace q492 := eq_true q492
      go_wp2
      go_roundg k1
      case measure => have := HK1.out; omega
      case rel => exact ⟨(wrap64 (x3_1 + 1)), (by first | rfl | (simp; done) | (simp [*]; done)), H', ⟨by have := HK1.out; omega⟩, by repeat (first | exact Drawn0.refl _ | apply Drawn0.step)⟩
  · rw [if_neg c2] at H
    have c2b0 : decide (x3_1 < (l0.length : Int)) = false := decide_eq_false c2
    clear c2
    obtain rfl := zOi H
    go_wp2
    go_ret
    exact ⟨by first | rfl | (simp; done) | (simp [*]; done), by repeat (first | exact Drawn0.refl _ | apply Drawn0.step)⟩

theorem light3 (a b c : List Int) (ha : a.length ≤ maxLen) (hb : b.length ≤ maxLen) (k : Nat) (hk : 4 ≤ k) : w1_Light.f k [a, b, c] = some (decide (a.length ≤ 12 ∧ b.length ≤ 12 ∧ c.length ≤ 12)) := by
  obtain ⟨k, rfl⟩ : ∃ d, k = d + 4 := ⟨k - 4, by omega⟩
  unfold w1_Light.f
  rw [w1_Light.l0, if_pos (by simp), if_pos (by omega), show rd_L1 [a, b, c] 0 = a from rfl]
  by_cases h1 : (a.length : Int) > 12
  · rw [if_pos h1, decide_eq_false (by omega)]
  · rw [if_neg h1, show wrap64 (0 + 1) = 1 from (by unfold wrap64; omega), w1_Light.l0, if_pos (by simp), if_pos (by omega), show rd_L1 [a, b, c] 1 = b from rfl]
    by_cases h2 : (b.length : Int) > 12
    · rw [if_pos h2, decide_eq_false (by omega)]
    · rw [if_neg h2, show wrap64 (1 + 1) = 2 from (by unfold wrap64; omega), w1_Light.l0, if_pos (by simp), if_pos (by omega), show rd_L1 [a, b, c] 2 = c from rfl]
      by_cases h3 : (c.length : Int) > 12
      · rw [if_pos h3, decide_eq_false (by omega)]
      · rw [if_neg h3, show wrap64 (2 + 1) = 3 from (by unfold wrap64; omega), w1_Light.l0, if_neg (by simp), decide_eq_true (by omega)]

def filigreeref02_make2.f (k : Nat) (a0 : Bool) (l1 : List Int) : Option (Bool × List Int) := (r1_Norm.f k l1).bind fun t442 => (if a0 = true then (some (decide ((t442.length : Int) > 0), t442)) else (some (false, t442)))
theorem filigreeref02_make2.calls (k : Nat) (a0 : Bool) (A1 : Option Addr) (c1 : Nat) (l1 : List Int) (r1 : Bool) (r2 : List Int) (w : World) (hr1 : Kd.C (Kd.int .u32) w A1 l1.length l1) (hc1 : l1.length ≤ c1) (h : filigreeref02_make2.f k a0 l1 = some (r1, r2)) :
    Calls Tryd.prog 38 #[.bool a0, .slice A1 l1.length c1] w fun e w' => ∃ v1_ : Value, e = .returned (.agg #[.bool r1, v1_]) ∧ Kd.R (Kd.int .u32) 58 w' w.heap.size (fun _ => True) v1_ r2 ∧ Below w.heap.size w w' := by
  have hu24 := Tryd.underlying24
  have HR1 := zMk hr1
  have HC1 := zMk hc1
  clear hr1 hc1
  have HB := zMk (Below.refl w.heap.size w)
  have H : ((r1_Norm.f k l1).bind fun t442 => (if a0 = true then (some (decide ((t442.length : Int) > 0), t442)) else (some (false, t442)))) = some (r1, r2) := h
  clear h
  replace H := bnd H
  obtain ⟨t442, A30, H⟩ := H
  have A3 := zMk A30
  clear A30
  by_cases c4 : a0 = true
  · subst c4
    replace H : (some (decide ((t442.length : Int) > 0), t442)) = some (r1, r2) := by rw [if_pos rfl] at H; exact H
    simp only [Option.some.injEq, Prod.mk.injEq] at H
    obtain ⟨rfl, rfl⟩ := H
    have hdl_ : decide ((t442.length : Int) > 0) = decide (0 < t442.length) := decide_eq_decide.2 (by omega)
    rw [hdl_]
    go_enter Tryd.func38, Tryd.ntmps38
    go_wp2_with (first | ((with_reducible refine gate_dst (N := 4) rfl ?_); (try (refine gate_guard (by rfl) ?_; dsimp only)); refine box_event ?hg (N := 4) ?hd (cs := #[.bool false, .slice none 0 0]) (t := 24) ?hr ?_; (case hd => rfl); (case hg => rfl); (case hr => first | (go_simp; done)|(go_simp; rfl)|(go_simp; rw [show ∀ x : Int, IntKind.u32.wrap (IntKind.u8.wrap x) = x % 256 from fun x => (by show (x % 256) % 4294967296 = x % 256; omega)])); intro gb441 hg w5 hbox hb; have BK441 := zMk (hbox); have GW441 := zMk ((by rw [hg]; exact (zBs (by exact uT HB.out)) : w.heap.size ≤ gb441)); have GE441 := zMk ((by rw [hg]; exact (zBs (by exact uT HB.out)) : w.heap.size ≤ gb441)); have IGE441 := ownGe GE441.out; replace HB := zMk (zBt (by exact uT HB.out) hb); clear hb hbox hg)|((with_reducible refine gate_callee (f := 63) rfl ?_); refine goesL_ (some 7) rfl rfl Tryd.func63 (by kernel_rfl) rfl #[.slice A1 l1.length c1] rfl (by (try simp only [zMa, zMc, zMn]); first |  done|  rfl|  (simp only [zLd, zLt]; rfl)) ?_; (with_reducible refine (r1_Norm.calls k _ _ l1 t442 _ ?side1 ?side2 A3.out).mono ?_); (case side1 => repeat (first |  exact (Kd.C_below HR1.out HB.out)|(with_reducible refine zCa ?_ _)|(with_reducible refine zCn ?_ _)|(with_reducible refine zCd ?_))); (case side2 => exact HC1.out); rintro e w6 ⟨v443, rfl, ho0, hb⟩; refine ⟨_, rfl, ?_⟩; have HO444 := zMk (zRl ho0 (zBs (by exact uT HB.out))); replace BK441 := zMk (zKb (g := gb441) (o := .cells #[.bool false, .slice none 0 0] 24 (0, 0)) (by (with_reducible repeat (first |  refine zKn ?_ _|  refine zKd ?_|  refine zKa ?_ _)); exact BK441.out) hb); replace HB := zMk (zBt (by exact uT HB.out) hb); obtain ⟨Ao7, co7, eo7⟩ := zRs HO444.out; subst eo7; have hcz8_0 : w6.cell? ⟨gb441, 0, none⟩ = some (.bool false) := (zKc BK441.out 0).trans rfl; have hcz8_1 : w6.cell? ⟨gb441, 1, none⟩ = some (.slice none 0 0) := (zKc BK441.out 1).trans rfl; have hfz8_0 := zKf BK441.out 0; have hfz8_1 := zKf BK441.out 1))
    refine bodyPost_ret (results_cell_row rfl _ _ gb441 24 #[.bool (decide (0 < t442.length)), .slice Ao7 t442.length co7] (0, 0) _ rfl (by (with_reducible repeat (first | refine zKn ?_ _ | refine zKd ?_ | refine zKa ?_ _)); refine blk_put (cs := #[.bool (decide (0 < t442.length)), .slice none 0 0]) ?_ 1 _ rfl; (with_reducible repeat (first | refine zKn ?_ _ | refine zKd ?_ | refine zKa ?_ _)); refine blk_put (cs := #[.bool false, .slice none 0 0]) ?_ 0 _ rfl; (with_reducible repeat (first | refine zKn ?_ _ | refine zKd ?_ | refine zKa ?_ _)); exact BK441.out) Tryd.underlying24 rfl (by kernel_rfl)) rfl ?_
    exact ⟨_, by first | rfl | (simp [errW_none, errW_some] <;> rfl) | (simp [*, errW_none, errW_some] <;> rfl), by (with_reducible repeat (first | apply zRa | apply zRn | apply zRd)); exact zRm (Kd.R_far (p := ⟨gb441, 1, none⟩) (Kd.R_far (p := ⟨gb441, 0, none⟩) (Kd.R_types HO444.out BK441.out (by decide)) (fun _ hk => hk.2) (.bool (decide (0 < t442.length)))) (fun _ hk => hk.2) (.slice Ao7 t442.length co7)) (fun _ hk => trivial), by exact uT HB.out⟩
  · replace c4 := Bool.eq_false_iff.mpr c4
    subst c4
    replace H : (some (false, t442)) = some (r1, r2) := by rw [if_neg (show ¬ (false = true) by decide)] at H; exact H
    simp only [Option.some.injEq, Prod.mk.injEq] at H
    obtain ⟨rfl, rfl⟩ := H
    go_enter Tryd.func38, Tryd.ntmps38
    go_wp2_with (first | ((with_reducible refine gate_dst (N := 4) rfl ?_); (try (refine gate_guard (by rfl) ?_; dsimp only)); refine box_event ?hg (N := 4) ?hd (cs := #[.bool false, .slice none 0 0]) (t := 24) ?hr ?_; (case hd => rfl); (case hg => rfl); (case hr => first | (go_simp; done)|(go_simp; rfl)|(go_simp; rw [show ∀ x : Int, IntKind.u32.wrap (IntKind.u8.wrap x) = x % 256 from fun x => (by show (x % 256) % 4294967296 = x % 256; omega)])); intro gb441 hg w9 hbox hb; have BK441 := zMk (hbox); have GW441 := zMk ((by rw [hg]; exact (zBs (by exact uT HB.out)) : w.heap.size ≤ gb441)); have GE441 := zMk ((by rw [hg]; exact (zBs (by exact uT HB.out)) : w.heap.size ≤ gb441)); have IGE441 := ownGe GE441.out; replace HB := zMk (zBt (by exact uT HB.out) hb); clear hb hbox hg)|((with_reducible refine gate_callee (f := 63) rfl ?_); refine goesL_ (some 7) rfl rfl Tryd.func63 (by kernel_rfl) rfl #[.slice A1 l1.length c1] rfl (by (try simp only [zMa, zMc, zMn]); first |  done|  rfl|  (simp only [zLd, zLt]; rfl)) ?_; (with_reducible refine (r1_Norm.calls k _ _ l1 t442 _ ?side1 ?side2 A3.out).mono ?_); (case side1 => repeat (first |  exact (Kd.C_below HR1.out HB.out)|(with_reducible refine zCa ?_ _)|(with_reducible refine zCn ?_ _)|(with_reducible refine zCd ?_))); (case side2 => exact HC1.out); rintro e w10 ⟨v443, rfl, ho0, hb⟩; refine ⟨_, rfl, ?_⟩; have HO444 := zMk (zRl ho0 (zBs (by exact uT HB.out))); replace BK441 := zMk (zKb (g := gb441) (o := .cells #[.bool false, .slice none 0 0] 24 (0, 0)) (by (with_reducible repeat (first |  refine zKn ?_ _|  refine zKd ?_|  refine zKa ?_ _)); exact BK441.out) hb); replace HB := zMk (zBt (by exact uT HB.out) hb); obtain ⟨Ao11, co11, eo11⟩ := zRs HO444.out; subst eo11; have hcz12_0 : w10.cell? ⟨gb441, 0, none⟩ = some (.bool false) := (zKc BK441.out 0).trans rfl; have hcz12_1 : w10.cell? ⟨gb441, 1, none⟩ = some (.slice none 0 0) := (zKc BK441.out 1).trans rfl; have hfz12_0 := zKf BK441.out 0; have hfz12_1 := zKf BK441.out 1))
    refine bodyPost_ret (results_cell_row rfl _ _ gb441 24 #[.bool false, .slice Ao11 t442.length co11] (0, 0) _ rfl (by (with_reducible repeat (first | refine zKn ?_ _ | refine zKd ?_ | refine zKa ?_ _)); refine blk_put (cs := #[.bool false, .slice none 0 0]) ?_ 1 _ rfl; (with_reducible repeat (first | refine zKn ?_ _ | refine zKd ?_ | refine zKa ?_ _)); refine blk_put (cs := #[.bool false, .slice none 0 0]) ?_ 0 _ rfl; (with_reducible repeat (first | refine zKn ?_ _ | refine zKd ?_ | refine zKa ?_ _)); exact BK441.out) Tryd.underlying24 rfl (by kernel_rfl)) rfl ?_
    exact ⟨_, by first | rfl | (simp [errW_none, errW_some] <;> rfl) | (simp [*, errW_none, errW_some] <;> rfl), by (with_reducible repeat (first | apply zRa | apply zRn | apply zRd)); exact zRm (Kd.R_far (p := ⟨gb441, 1, none⟩) (Kd.R_far (p := ⟨gb441, 0, none⟩) (Kd.R_types HO444.out BK441.out (by decide)) (fun _ hk => hk.2) (.bool false)) (fun _ hk => hk.2) (.slice Ao11 t442.length co11)) (fun _ hk => trivial), by exact uT HB.out⟩


mutual
def r1_bits.l0 : Nat → List Int → List Int → Int → Option (List Int)
  | 0, _, _, _ => none
  | k + 1, x0, x3, x4 => if x4 < (x0.length : Int) then (r1_bits.l1 k x0 x3 x4 0) else (some x3)
def r1_bits.l1 : Nat → List Int → List Int → Int → Int → Option (List Int)
  | 0, _, _, _, _ => none
  | k + 1, x0, x3, x4, x5 => if x5 < 32 then (if 0 ≤ x4 then (if x4 < (x0.length : Int) then (if 0 ≤ (IntKind.u64.wrap (x5)) then (if x3.length < 140737488355328 then (r1_bits.l1 k x0 (x3 ++ [(Go.bits .and .u32 (shr .u32 (rd x0 x4) (IntKind.u64.wrap (x5))) 1) % 256]) x4 (wrap64 (x5 + 1))) else (none)) else (none)) else (none)) else (none)) else (r1_bits.l0 k x0 x3 (wrap64 (x4 + 1)))
end
def r1_bits.f (k : Nat) (l0 : List Int) : Option (List Int) := r1_bits.l0 k l0 ([] : List Int) 0
theorem r1_bits.calls (k : Nat) (A0 : Option Addr) (c0 : Nat) (l0 : List Int) (r : List Int) (w : World) (hr0 : Kd.C (Kd.int .u32) w A0 l0.length l0) (hc0 : l0.length ≤ c0) (h : r1_bits.f k l0 = some r) :
    Calls Tryd.prog 64 #[.slice A0 l0.length c0] w fun e w' => ∃ v0_ : Value, e = .returned (v0_) ∧ Kd.R (Kd.int .u8) 5 w' w.heap.size (fun _ => True) v0_ r ∧ Below w.heap.size w w' := by
  have HR0 := zMk hr0
  have HC0 := zMk hc0
  clear hr0 hc0
  have HB := zMk (Below.refl w.heap.size w)
  have H : (r1_bits.l0 k l0 ([] : List Int) 0) = some r := h
  clear h
  have H' := zMk H
  clear H
  go_enter Tryd.func64, Tryd.ntmps64
  go_wp2
  go_loopg [3, 4] k (fun kq v3 v4 w' => ∃ (x3_1 : List Int) (x4_1 : Int), v4 = .int .i64 x4_1 ∧ Aside0 (r1_bits.l0 kq l0 x3_1 x4_1 = some r) ∧ Aside0 (kq ≤ k) ∧ Aside0 (Kd.R (Kd.int .u8) 5 w' w.heap.size (fun _ => True) v3 x3_1) ∧ Aside0 (Below w.heap.size w w'))
  case atStart => exact ⟨(([] : List Int)), (0), (by first | rfl | (simp; done) | (simp [*]; done)), H', ⟨Nat.le_refl _⟩, ⟨by first | exact Kd.R_nil _ _ _ _ _ | exact Kd.N_nil _ _ _ _ _ | exact Kd.V_nil _ _ _ _ _ | exact Kd.Q_nil _ _ _ _ _ | exact Kd.S_nil _ _ _ _ _⟩, ⟨by exact uT HB.out⟩⟩
  clear H'
  obtain ⟨x3_1, x4_1, rfl, HA, HK1, HO_3, HB⟩ := hrel
  rcases gk with _ | k1
  · exact absurd HA.out (by simp [r1_bits.l0])
  have H := HA.out
  clear HA
  simp only [r1_bits.l0] at H
  by_cases c2 : x4_1 < (l0.length : Int)
  · rw [if_pos c2] at H
    have c2b0 : decide (x4_1 < (l0.length : Int)) = true := decide_eq_true c2
    clear c2
    have H' := zMk H
    clear H
    go_wp2
    go_loopg [3, 5] k1 (fun kq v3 v5 w' => ∃ (x3_2 : List Int) (x5_2 : Int), v5 = .int .i64 x5_2 ∧ Aside0 (r1_bits.l1 kq l0 x3_2 x4_1 x5_2 = some r) ∧ Aside0 (kq ≤ k1) ∧ Aside0 (Kd.R (Kd.int .u8) 5 w' w.heap.size (fun _ => True) v3 x3_2) ∧ Aside0 (Below w.heap.size w w'))
    case atStart => exact ⟨(x3_1), (0), (by first | rfl | (simp; done) | (simp [*]; done)), H', ⟨Nat.le_refl _⟩, ⟨by exact uR HO_3.out⟩, ⟨by exact uT HB.out⟩⟩
    clear H'
    obtain ⟨x3_2, x5_2, rfl, HA, HK2, HO_3, HB⟩ := hrel
    rcases gk with _ | k2
    · exact absurd HA.out (by simp [r1_bits.l1])
    have H := HA.out
    clear HA
    simp only [r1_bits.l1] at H
    by_cases c3 : x5_2 < 32
    · rw [if_pos c3] at H
      have c3b0 : decide (x5_2 < 32) = true := decide_eq_true c3
      clear c3
      by_cases c4 : 0 ≤ x4_1
      rotate_left
      · rw [if_neg c4] at H; exact absurd H (by simp)
      rw [if_pos c4] at H
      have c4b0 : decide (0 ≤ x4_1) = true := decide_eq_true c4
      clear c4
      by_cases c5 : x4_1 < (l0.length : Int)
      rotate_left
      · rw [if_neg c5] at H; exact absurd H (by simp)
      rw [if_pos c5] at H
      have c5b0 : decide (x4_1 < (l0.length : Int)) = true := decide_eq_true c5
      clear c5
      obtain ⟨ji6, hji6⟩ : ∃ j_ : Int, (IntKind.u64.wrap (x5_2)) = j_ := ⟨_, rfl⟩
      replace H : (if 0 ≤ (ji6) then (if x3_2.length < 140737488355328 then (r1_bits.l1 k2 l0 (x3_2 ++ [(Go.bits .and .u32 (shr .u32 (rd l0 x4_1) (ji6)) 1) % 256]) x4_1 (wrap64 (x5_2 + 1))) else (none)) else (none)) = some r := by first | (rw [hji6] at H; exact H) | (simp only [hji6] at H ⊢; exact H)
      by_cases c7 : 0 ≤ (ji6)
      rotate_left
      · rw [if_neg c7] at H; exact absurd H (by simp)
      rw [if_pos c7] at H
      have c7b0 := eq_true c7
      have c7b1 : decide (0 ≤ (ji6)) = true := decide_eq_true c7
      clear c7
      obtain ⟨ji8, hji8⟩ : ∃ j_ : Int, (shr .u32 (rd l0 x4_1) (ji6)) = j_ := ⟨_, rfl⟩
      replace H : (if x3_2.length < 140737488355328 then (r1_bits.l1 k2 l0 (x3_2 ++ [(Go.bits .and .u32 (ji8) 1) % 256]) x4_1 (wrap64 (x5_2 + 1))) else (none)) = some r := by first | (rw [hji8] at H; exact H) | (simp only [hji8] at H ⊢; exact H)
      have hji8_ : ((rd l0 x4_1) / 2 ^ min (ji6).toNat 32) = ji8 := hji8
      have hji8z : (ji6) ≤ 32 → ((rd l0 x4_1) / 2 ^ (ji6).toNat) = ji8 := shr_small hji8
      by_cases c9 : x3_2.length < 140737488355328
      rotate_left
      · rw [if_neg c9] at H; exact absurd H (by simp)
      rw [if_pos c9] at H
      have LMc9 := zMk c9
      clear c9
      obtain ⟨y592, hy592⟩ : ∃ y_ : List Int, y_ = (x3_2 ++ [(Go.bits .and .u32 (ji8) 1) % 256]) := ⟨_, rfl⟩
      replace H : (r1_bits.l1 k2 l0 y592 x4_1 (wrap64 (x5_2 + 1))) = some r := by first | (rw [hy592]; with_reducible exact H) | (have H2_ := bsm H; first | (rw [hy592]; with_reducible exact H2_) | with_reducible exact H2_) | with_reducible exact H | (rw [hy592]; exact H) | exact H
      have Ny592 := zMk hy592
      clear hy592
      have H' := zMk H
      clear H
      have p591 : 0 ≤ (x4_1 : Int) := of_decide_eq_true (by assumption)
      have q591 : x4_1 < (l0.length : Int) := of_decide_eq_true (by assumption)
      obtain ⟨ad591, e591, hx591_0⟩ := zAi HR0.out x4_1 p591 q591
      cases e591
      replace hx591_0 := (HB.out.cell (World.block_lt_of_cell? w _ hx591_0)).trans hx591_0
      replace p591 := eq_true p591
      replace q591 := eq_true q591
      go_wp2_with (first | ((with_reducible refine gate_builtin (b := .append) (xs := #[.tmp 16, .tmp 26]) rfl ?_); at_builtin; refine Kd.R_append (Kd.int .u8) (w0 := w) w.heap.size rfl (.tmp 16) (.tmp 26) 67 5 (.int .u8 0) 1 rfl Tryd.underlying67 info5 rfl (by decide) (by omega) u3 x3_2 ((Go.bits .and .u32 (ji8) 1) % 256) [.int .u8 ((Go.bits .and .u32 (ji8) 1) % 256)] (fun _ => True) (fun _ => False) rfl rfl ?aP (fun _ hk => hk.elim) ?aF ?aO ?aB ?aS ?aL ?_; (case aP => exact rfl); (case aB => exact (by exact uT HB.out)); (case aF => exact (fun _ _ => trivial)); (case aO => exact (by exact uR HO_3.out)); (case aS => exact (zBs (by exact uT HB.out))); (case aL => have := LMc9.out; omega); intro v593 w10 ho hb hg hat; rw [← Ny592.out] at ho; replace HB := zMk (hb); have HO594 := zMk (ho); clear HO_3 ho hb hg hat))
      go_roundg k2
      case measure => have := HK1.out; have := HK2.out; omega
      case rel => exact ⟨(y592), (wrap64 (x5_2 + 1)), (by first | rfl | (simp; done) | (simp [*]; done)), H', ⟨by have := HK1.out; have := HK2.out; omega⟩, ⟨by exact uR HO594.out⟩, ⟨by exact uT HB.out⟩⟩
    · rw [if_neg c3] at H
      have c3b0 : decide (x5_2 < 32) = false := decide_eq_false c3
      clear c3
      have H' := zMk H
      clear H
      go_wp2
      go_roundg k2
      case measure => have := HK1.out; have := HK2.out; omega
      case rel => exact ⟨(x3_2), (wrap64 (x4_1 + 1)), (by first | rfl | (simp; done) | (simp [*]; done)), H', ⟨by have := HK1.out; have := HK2.out; omega⟩, ⟨by exact uR HO_3.out⟩, ⟨by exact uT HB.out⟩⟩
  · rw [if_neg c2] at H
    have c2b0 : decide (x4_1 < (l0.length : Int)) = false := decide_eq_false c2
    clear c2
    obtain rfl := zOi H
    go_wp2
    go_ret
    exact ⟨_, by first | rfl | (simp [errW_none, errW_some] <;> rfl) | (simp [*, errW_none, errW_some] <;> rfl), by exact uR HO_3.out, by exact uT HB.out⟩


def r1_limbs.l0 : Nat → List Int → List Int → Int → Option (List Int)
  | 0, _, _, _ => none
  | k + 1, x0, x3, x4 => if x4 < (x0.length : Int) then (if 0 ≤ (wrap64 (Int.tdiv x4 32)) then (if (wrap64 (Int.tdiv x4 32)) < (x3.length : Int) then (if 0 ≤ x4 then (if 0 ≤ (IntKind.u64.wrap (Int.tmod x4 32)) then (r1_limbs.l0 k x0 (x3.set ((wrap64 (Int.tdiv x4 32)) : Int).toNat (Go.bits .or .u32 (rd x3 (wrap64 (Int.tdiv x4 32))) (shl .u32 ((rd x0 x4) % 4294967296) (IntKind.u64.wrap (Int.tmod x4 32))))) (wrap64 (x4 + 1))) else (none)) else (none)) else (none)) else (none)) else ((r1_Norm.f k x3).bind fun t601 => (some t601))
def r1_limbs.f (k : Nat) (l0 : List Int) : Option (List Int) := if 0 ≤ (wrap64 (Int.tdiv (wrap64 ((l0.length : Int) + 31)) 32)) then (if (wrap64 (Int.tdiv (wrap64 ((l0.length : Int) + 31)) 32) : Int).toNat ≤ 70368744177664 then (r1_limbs.l0 k l0 (List.replicate (wrap64 (Int.tdiv (wrap64 ((l0.length : Int) + 31)) 32) : Int).toNat 0) 0) else (none)) else (none)
def r1_limbs.T5 : Bool × List (List Nat × List Nat) := (true, [([], []), ([], []), ([1], [1]), ([], []), ([], []), ([4], [4]), ([3, 5], [3, 5]), ([6], [6]), ([], []), ([], []), ([8, 9], [8, 9]), ([10], [10]), ([11], [11]), ([], []), ([13], [13]), ([14], [14]), ([12, 15], [12, 15]), ([7, 16], [7, 16]), ([0, 2, 0, 1, 2, 3, 4, 5, 6, 7, 8, 9, 10, 11, 12, 13, 14, 15, 16, 17], [0, 2]), ([18, 17, 0, 1, 2, 3, 4, 5, 6, 7, 8, 9, 10, 11, 12, 13, 14, 15, 16, 17], [17, 18])])
def r1_limbs.B5 : List Nat := [0, 0, 2, 0, 0, 16, 56, 120, 0, 0, 768, 1792, 3840, 0, 8192, 24576, 65280, 131064, 262143, 524287]
theorem r1_limbs.tab5 : rtab .any (opsOf Tryd.f65 5) = r1_limbs.T5 := by kernel_rfl
theorem r1_limbs.bits5 : waitsOk r1_limbs.T5.2 r1_limbs.B5 = true := by kernel_rfl
theorem r1_limbs.calls (k : Nat) (A0 : Option Addr) (c0 : Nat) (l0 : List Int) (r : List Int) (w : World) (hr0 : Kd.C (Kd.int .u8) w A0 l0.length l0) (hc0 : l0.length ≤ c0) (h : r1_limbs.f k l0 = some r) :
    Calls Tryd.prog 65 #[.slice A0 l0.length c0] w fun e w' => ∃ v0_ : Value, e = .returned (v0_) ∧ Kd.R (Kd.int .u32) 58 w' w.heap.size (fun _ => True) v0_ r ∧ Below w.heap.size w w' := by
  have HR0 := zMk hr0
  have HC0 := zMk hc0
  clear hr0 hc0
  have HB := zMk (Below.refl w.heap.size w)
  have H : (if 0 ≤ (wrap64 (Int.tdiv (wrap64 ((l0.length : Int) + 31)) 32)) then (if (wrap64 (Int.tdiv (wrap64 ((l0.length : Int) + 31)) 32) : Int).toNat ≤ 70368744177664 then (r1_limbs.l0 k l0 (List.replicate (wrap64 (Int.tdiv (wrap64 ((l0.length : Int) + 31)) 32) : Int).toNat 0) 0) else (none)) else (none)) = some r := h
  clear h
  obtain ⟨ji2, hji2⟩ : ∃ j_ : Int, (wrap64 (Int.tdiv (wrap64 ((l0.length : Int) + 31)) 32)) = j_ := ⟨_, rfl⟩
  replace H : (if 0 ≤ (ji2) then (if (ji2 : Int).toNat ≤ 70368744177664 then (r1_limbs.l0 k l0 (List.replicate (ji2 : Int).toNat 0) 0) else (none)) else (none)) = some r := by first | (rw [hji2] at H; exact H) | (simp only [hji2] at H ⊢; exact H)
  have hji2w : (IntKind.i64.wrap (Int.tdiv (wrap64 ((l0.length : Int) + 31)) 32)) = ji2 := (i64_w _).trans hji2
  by_cases c3 : 0 ≤ (ji2)
  · rw [if_pos c3] at H
    have c3b0 := eq_true c3
    have c3b1 : decide (0 ≤ (ji2)) = true := decide_eq_true c3
    clear c3
    by_cases c4 : (ji2 : Int).toNat ≤ 70368744177664
    rotate_left
    · rw [if_neg c4] at H; exact absurd H (by simp)
    rw [if_pos c4] at H
    have c4b0 := eq_true c4
    have c4b1 : decide ((ji2 : Int).toNat ≤ 70368744177664) = true := decide_eq_true c4
    clear c4
    obtain ⟨y595, hy595⟩ : ∃ y_ : List Int, y_ = (List.replicate (ji2 : Int).toNat 0) := ⟨_, rfl⟩
    replace H : (r1_limbs.l0 k l0 y595 0) = some r := by first | (rw [hy595]; with_reducible exact H) | (have H2_ := bsm H; first | (rw [hy595]; with_reducible exact H2_) | with_reducible exact H2_) | with_reducible exact H | (rw [hy595]; exact H) | exact H
    have Ny595 := zMk hy595
    clear hy595
    have H' := zMk H
    clear H
    go_enter Tryd.func65, Tryd.ntmps65
    go_wp2_with (first | ((with_reducible refine gate_dst (N := 9) rfl ?_); refine Kd.R_make (Kd.int .u32) _ 58 rfl (N := 9) rfl 22 _ _ rfl ji2 rfl rfl Tryd.underlying22 (.int .u32 0) 4 info58 rfl (by decide) (by omega) 0 (ok := fun _ => True) (okp := fun _ => True) rfl (fun _ hk => hk) trivial (of_decide_eq_true (by first | (with_reducible assumption)|  assumption)) (Nat.le_trans (Nat.mul_le_mul_right _ (of_decide_eq_true (by first | (with_reducible assumption)|  assumption) : ji2.toNat ≤ 70368744177664)) (by omega)) (Below.refl _ _) (Nat.le_refl _) ?_; intro v596 w5 ho6 hb hg_ hnew_; clear hg_ hnew_; (first |  rw [← Ny595.out] at ho6|  (simp only [Int.reduceToNat] at ho6; rw [← Ny595.out] at ho6)); have HO597 := zMk (zRl ho6 (zBs (by exact uT HB.out))); replace HB := zMk (zBt (by exact uT HB.out) hb); clear hb ho6))
    go_loopg [4] k (fun kq v4 w' => ∃ (x3_1 : List Int) (x4_1 : Int), v4 = .int .i64 x4_1 ∧ Aside0 (r1_limbs.l0 kq l0 x3_1 x4_1 = some r) ∧ Aside0 (kq ≤ k) ∧ Aside0 (Kd.R (Kd.int .u32) 58 w' w.heap.size (fun _ => True) v596 x3_1) ∧ Aside0 (Below w.heap.size w w'))
    case atStart => exact ⟨(y595), (0), (by first | rfl | (simp; done) | (simp [*]; done)), H', ⟨Nat.le_refl _⟩, ⟨by exact uR HO597.out⟩, ⟨by exact uT HB.out⟩⟩
    clear H'
    obtain ⟨x3_1, x4_1, rfl, HA, HK1, HO_3, HB⟩ := hrel
    rcases gk with _ | k1
    · exact absurd HA.out (by simp [r1_limbs.l0])
    have H := HA.out
    clear HA
    simp only [r1_limbs.l0] at H
    by_cases c7 : x4_1 < (l0.length : Int)
    · rw [if_pos c7] at H
      have c7b0 : decide (x4_1 < (l0.length : Int)) = true := decide_eq_true c7
      clear c7
      obtain ⟨ji8, hji8⟩ : ∃ j_ : Int, (wrap64 (Int.tdiv x4_1 32)) = j_ := ⟨_, rfl⟩
      replace H : (if 0 ≤ (ji8) then (if (ji8) < (x3_1.length : Int) then (if 0 ≤ x4_1 then (if 0 ≤ (IntKind.u64.wrap (Int.tmod x4_1 32)) then (r1_limbs.l0 k1 l0 (x3_1.set ((ji8) : Int).toNat (Go.bits .or .u32 (rd x3_1 (ji8)) (shl .u32 ((rd l0 x4_1) % 4294967296) (IntKind.u64.wrap (Int.tmod x4_1 32))))) (wrap64 (x4_1 + 1))) else (none)) else (none)) else (none)) else (none)) = some r := by first | (rw [hji8] at H; exact H) | (simp only [hji8] at H ⊢; exact H)
      have hji8w : (IntKind.i64.wrap (Int.tdiv x4_1 32)) = ji8 := (i64_w _).trans hji8
      by_cases c9 : 0 ≤ (ji8)
      rotate_left
      · rw [if_neg c9] at H; exact absurd H (by simp)
      rw [if_pos c9] at H
      have c9b0 : decide (0 ≤ (ji8)) = true := decide_eq_true c9
      clear c9
      by_cases c10 : (ji8) < (x3_1.length : Int)
      rotate_left
      · rw [if_neg c10] at H; exact absurd H (by simp)
      rw [if_pos c10] at H
      have c10b0 : decide ((ji8) < (x3_1.length : Int)) = true := decide_eq_true c10
      clear c10
      by_cases c11 : 0 ≤ x4_1
      rotate_left
      · rw [if_neg c11] at H; exact absurd H (by simp)
      rw [if_pos c11] at H
      have c11b0 : decide (0 ≤ x4_1) = true := decide_eq_true c11
      clear c11
      obtain ⟨ji12, hji12⟩ : ∃ j_ : Int, (IntKind.u64.wrap (Int.tmod x4_1 32)) = j_ := ⟨_, rfl⟩
      replace H : (if 0 ≤ (ji12) then (r1_limbs.l0 k1 l0 (x3_1.set ((ji8) : Int).toNat (Go.bits .or .u32 (rd x3_1 (ji8)) (shl .u32 ((rd l0 x4_1) % 4294967296) (ji12)))) (wrap64 (x4_1 + 1))) else (none)) = some r := by first | (rw [hji12] at H; exact H) | (simp only [hji12] at H ⊢; exact H)
      by_cases c13 : 0 ≤ (ji12)
      rotate_left
      · rw [if_neg c13] at H; exact absurd H (by simp)
      rw [if_pos c13] at H
      have c13b0 := eq_true c13
      have c13b1 : decide (0 ≤ (ji12)) = true := decide_eq_true c13
      clear c13
      obtain ⟨ji14, hji14⟩ : ∃ j_ : Int, (shl .u32 ((rd l0 x4_1) % 4294967296) (ji12)) = j_ := ⟨_, rfl⟩
      replace H : (r1_limbs.l0 k1 l0 (x3_1.set ((ji8) : Int).toNat (Go.bits .or .u32 (rd x3_1 (ji8)) (ji14))) (wrap64 (x4_1 + 1))) = some r := by first | (rw [hji14] at H; exact H) | (simp only [hji14] at H ⊢; exact H)
      have hji14_ : (IntKind.u32.wrap (((rd l0 x4_1) % 4294967296) * 2 ^ min (ji12).toNat 32)) = ji14 := hji14
      have hji14m : ((((rd l0 x4_1) % 4294967296) * 2 ^ min (ji12).toNat 32) % 4294967296) = ji14 := hji14_
      have hji14z : (ji12) ≤ 32 → (IntKind.u32.wrap (((rd l0 x4_1) % 4294967296) * 2 ^ (ji12).toNat)) = ji14 := shl_small hji14
      obtain ⟨y600, hy600⟩ : ∃ y_ : List Int, y_ = (x3_1.set ((ji8) : Int).toNat (Go.bits .or .u32 (rd x3_1 (ji8)) (ji14))) := ⟨_, rfl⟩
      replace H : (r1_limbs.l0 k1 l0 y600 (wrap64 (x4_1 + 1))) = some r := by first | (rw [hy600]; with_reducible exact H) | (have H2_ := bsm H; first | (rw [hy600]; with_reducible exact H2_) | with_reducible exact H2_) | with_reducible exact H | (rw [hy600]; exact H) | exact H
      have Ny600 := zMk hy600
      clear hy600
      have H' := zMk H
      clear H
      try go_wp2
      replace HO_3 := zMk (zRd HO_3.out)
      replace HB := zMk (zBd HB.out)
      obtain ⟨Ao17, co17, eo17⟩ := zRs HO_3.out
      (first |  subst eo17|  (injection eo17 with f1_ f2_ f3_; have f4_ := f1_.symm; have f5_ := f3_.symm; clear f1_ f2_ f3_; subst f4_; subst f5_))
      have p598 : 0 ≤ ((ji8) : Int) := of_decide_eq_true (by assumption)
      have q598 : (ji8) < (x3_1.length : Int) := of_decide_eq_true (by assumption)
      obtain ⟨ad598, e598, hx598_0⟩ := zAi (zRr HO_3.out).2.2 (ji8) p598 q598
      cases e598
      replace p598 := eq_true p598
      replace q598 := eq_true q598
      have p599 : 0 ≤ (x4_1 : Int) := of_decide_eq_true (by assumption)
      have q599 : x4_1 < (l0.length : Int) := of_decide_eq_true (by assumption)
      obtain ⟨ad599, e599, hx599_0⟩ := zAi HR0.out x4_1 p599 q599
      have hw599_0 := hx599_0
      cases e599
      replace hx599_0 := (HB.out.cell (World.block_lt_of_cell? w _ hx599_0)).trans hx599_0
      replace p599 := eq_true p599
      replace q599 := eq_true q599
      have p15 : 0 ≤ ((ji8) : Int) := of_decide_eq_true (by assumption)
      have q15 : ((ji8) : Int) < ((x3_1.length : Int) : Int) := of_decide_eq_true (by assumption)
      obtain ⟨go15, co15, eo15, gb15, gl15, cl15, HG15⟩ := Kd.R_form HO_3.out (by omega)
      (first |  cases eo15|  (injection eo15 with ea_ en_ ec_; (first |  subst ea_|  (injection ea_ with ea_; subst ea_)); subst ec_; clear en_))
      have GB15 := zMk gb15
      have IGB15 := ownGe GB15.out
      have GG15 := zMk HG15
      clear gb15 gl15 HG15
      (first | simp only [add_plain] at hx598_0 | skip)
      obtain ⟨hx15_0, hf15_0⟩ := Kd.R_celln 0 HO_3.out ((ji8) : Int) p15 q15
      replace p15 := eq_true p15
      replace q15 := eq_true q15
      have HP18 := Kd.R_putn HO_3.out ((ji8) : Int) (Go.bits .or .u32 (rd x3_1 (ji8)) (ji14))
      rw [← Ny600.out] at HP18
      have HQ18 := zMk HP18
      clear HP18
      refine start_ (n := 20) (S := fun w' => w'.cell? ⟨go15, ((ji8)).toNat, none⟩ = some (.int .u32 (rd x3_1 (ji8))) ∧ w'.cell? (ad599.add (x4_1).toNat) = some (.int .u8 (rd l0 x4_1))) (ds := [19]) #[false, false, false, false, false, false, false, false, false, false, false, false, false, false, false, false, false, false, false, false] (by kernel_rfl) rfl rfl ⟨hx598_0, ((HB.out.cell (World.block_lt_of_cell? w _ hw599_0)).trans hw599_0)⟩ (fun hHeld => ?_); refine with_tabW r1_limbs.tab5 r1_limbs.bits5 (fun HT_ HW_ => ?_)
      generalize wr.drew = w16 at HO_3 HB GG15 HQ18 hf15_0 hx15_0 hx598_0 hx599_0 hHeld ⊢
      refine pure_ (i := 0) (N := some 16) (v := ?_) (a' := ?_) #[true, false, false, false, false, false, false, false, false, false, false, false, false, false, false, false, false, false, false, false] rfl rfl (any_of HT_.out (by kernel_rfl)) (fun _ _ _ h => h) (Or.inl ⟨by rfl, ?_⟩) ?_ ?_
      rotate_left
      · intro w'
        go_simp
        with_reducible rfl
      rotate_left
      · simp only [Act.put, zSa, zSb, zSc, i64_w, i32_w]
        rfl
      refine pure_ (i := 1) (N := some 17) (v := ?_) (a' := ?_) #[true, true, false, false, false, false, false, false, false, false, false, false, false, false, false, false, false, false, false, false] rfl rfl (any_of HT_.out (by kernel_rfl)) (fun _ _ _ h => h) (Or.inl ⟨by rfl, ?_⟩) ?_ ?_
      rotate_left
      · intro w'
        go_simp
        with_reducible rfl
      rotate_left
      · simp only [Act.put, zSa, zSb, zSc, i64_w, i32_w]
        rfl
      refine pure_ (i := 2) (N := some 18) (v := ?_) (a' := ?_) #[true, true, true, false, false, false, false, false, false, false, false, false, false, false, false, false, false, false, false, false] rfl rfl (any_of HT_.out (by kernel_rfl)) (fun _ _ _ h => h) (Or.inl ⟨by rfl, ?_⟩) ?_ ?_
      rotate_left
      · intro w'
        go_simp
        with_reducible rfl
      rotate_left
      · simp only [Act.put, zSa, zSb, zSc, i64_w, i32_w]
        rfl
      refine pure_ (i := 3) (N := some 19) (v := ?_) (a' := ?_) #[true, true, true, true, false, false, false, false, false, false, false, false, false, false, false, false, false, false, false, false] rfl rfl (any_of HT_.out (by kernel_rfl)) (fun _ _ _ h => h) (Or.inl ⟨by rfl, ?_⟩) ?_ ?_
      rotate_left
      · intro w'
        go_simp
        with_reducible rfl
      rotate_left
      · simp only [Act.put, zSa, zSb, zSc, i64_w, i32_w]
        rfl
      refine pure_ (i := 4) (N := some 20) (v := ?_) (a' := ?_) #[true, true, true, true, true, false, false, false, false, false, false, false, false, false, false, false, false, false, false, false] rfl rfl (any_of HT_.out (by kernel_rfl)) (fun _ _ _ h => h) (Or.inl ⟨by rfl, ?_⟩) ?_ ?_
      rotate_left
      · intro w'
        go_simp
        with_reducible rfl
      rotate_left
      · simp only [Act.put, zSa, zSb, zSc, i64_w, i32_w]
        rfl
      refine pure_ (i := 5) (N := some 21) (v := ?_) (a' := ?_) #[true, true, true, true, true, true, false, false, false, false, false, false, false, false, false, false, false, false, false, false] rfl rfl (any_of HT_.out (by kernel_rfl)) (fun _ _ _ h => h) (Or.inl ⟨by rfl, ?_⟩) ?_ ?_
      rotate_left
      · intro w'
        go_simp
        with_reducible rfl
      rotate_left
      · simp only [Act.put, zSa, zSb, zSc, i64_w, i32_w]
        rfl
      refine pure_ (i := 6) (N := some 22) (v := ?_) (a' := ?_) #[true, true, true, true, true, true, true, false, false, false, false, false, false, false, false, false, false, false, false, false] rfl rfl (any_of HT_.out (by kernel_rfl)) (fun _ _ _ h => h) (Or.inl ⟨by rfl, ?_⟩) ?_ ?_
      rotate_left
      · intro w'
        go_simp
        with_reducible rfl
      rotate_left
      · simp only [Act.put, zSa, zSb, zSc, i64_w, i32_w]
        rfl
      refine pure_ (i := 8) (N := some 24) (v := ?_) (a' := ?_) #[true, true, true, true, true, true, true, false, true, false, false, false, false, false, false, false, false, false, false, false] rfl rfl (any_of HT_.out (by kernel_rfl)) (fun _ _ _ h => h) (Or.inl ⟨by rfl, ?_⟩) ?_ ?_
      rotate_left
      · intro w'
        go_simp
        with_reducible rfl
      rotate_left
      · simp only [Act.put, zSa, zSb, zSc, i64_w, i32_w]
        rfl
      refine pure_ (i := 9) (N := some 25) (v := ?_) (a' := ?_) #[true, true, true, true, true, true, true, false, true, true, false, false, false, false, false, false, false, false, false, false] rfl rfl (any_of HT_.out (by kernel_rfl)) (fun _ _ _ h => h) (Or.inl ⟨by rfl, ?_⟩) ?_ ?_
      rotate_left
      · intro w'
        go_simp
        with_reducible rfl
      rotate_left
      · simp only [Act.put, zSa, zSb, zSc, i64_w, i32_w]
        rfl
      refine pure_ (i := 10) (N := some 26) (v := ?_) (a' := ?_) #[true, true, true, true, true, true, true, false, true, true, true, false, false, false, false, false, false, false, false, false] rfl rfl (any_of HT_.out (by kernel_rfl)) (fun _ _ _ h => h) (Or.inl ⟨by rfl, ?_⟩) ?_ ?_
      rotate_left
      · intro w'
        go_simp
        with_reducible rfl
      rotate_left
      · simp only [Act.put, zSa, zSb, zSc, i64_w, i32_w]
        rfl
      refine pure_ (i := 13) (N := some 29) (v := ?_) (a' := ?_) #[true, true, true, true, true, true, true, false, true, true, true, false, false, true, false, false, false, false, false, false] rfl rfl (any_of HT_.out (by kernel_rfl)) (fun _ _ _ h => h) (Or.inl ⟨by rfl, ?_⟩) ?_ ?_
      rotate_left
      · intro w'
        go_simp
        with_reducible rfl
      rotate_left
      · simp only [Act.put, zSa, zSb, zSc, i64_w, i32_w]
        rfl
      refine pure_ (i := 14) (N := some 30) (v := ?_) (a' := ?_) #[true, true, true, true, true, true, true, false, true, true, true, false, false, true, true, false, false, false, false, false] rfl rfl (any_of HT_.out (by kernel_rfl)) (fun _ _ _ h => h) (Or.inl ⟨by rfl, ?_⟩) ?_ ?_
      rotate_left
      · intro w'
        go_simp
        with_reducible rfl
      rotate_left
      · simp only [Act.put, zSa, zSb, zSc, i64_w, i32_w]
        rfl
      refine pure_ (i := 15) (N := some 31) (v := ?_) (a' := ?_) #[true, true, true, true, true, true, true, false, true, true, true, false, false, true, true, true, false, false, false, false] rfl rfl (any_of HT_.out (by kernel_rfl)) (fun _ _ _ h => h) (Or.inl ⟨by rfl, ?_⟩) ?_ ?_
      rotate_left
      · intro w'
        go_simp
        with_reducible rfl
      rotate_left
      · simp only [Act.put, zSa, zSb, zSc, i64_w, i32_w]
        rfl
      refine take_ (i := 7) (N := some 23) (v := ?_) (a' := ?_) #[true, true, true, true, true, true, true, true, true, true, true, false, false, true, true, true, false, false, false, false] rfl rfl (take_ofW HT_.out HW_.out (by kernel_rfl)) (fun _ _ _ h => h) (Or.inl ⟨by rfl, ?_⟩) hHeld ?_ ?_
      rotate_left
      · rintro w' ⟨s0, s1⟩
        go_simp
        with_reducible rfl
      rotate_left
      · simp only [Act.put, zSa, zSb, zSc, i64_w, i32_w]
        rfl
      refine take_ (i := 11) (N := some 27) (v := ?_) (a' := ?_) #[true, true, true, true, true, true, true, true, true, true, true, true, false, true, true, true, false, false, false, false] rfl rfl (take_ofW HT_.out HW_.out (by kernel_rfl)) (fun _ _ _ h => h) (Or.inl ⟨by rfl, ?_⟩) hHeld ?_ ?_
      rotate_left
      · rintro w' ⟨s0, s1⟩
        go_simp
        with_reducible rfl
      rotate_left
      · simp only [Act.put, zSa, zSb, zSc, i64_w, i32_w]
        rfl
      refine pure_ (i := 12) (N := some 28) (v := ?_) (a' := ?_) #[true, true, true, true, true, true, true, true, true, true, true, true, true, true, true, true, false, false, false, false] rfl rfl (any_of HT_.out (by kernel_rfl)) (fun _ _ _ h => h) (Or.inl ⟨by rfl, ?_⟩) ?_ ?_
      rotate_left
      · intro w'
        go_simp
        with_reducible rfl
      rotate_left
      · simp only [Act.put, zSa, zSb, zSc, i64_w, i32_w]
        rfl
      refine pure_ (i := 16) (N := some 32) (v := ?_) (a' := ?_) #[true, true, true, true, true, true, true, true, true, true, true, true, true, true, true, true, true, false, false, false] rfl rfl (any_of HT_.out (by kernel_rfl)) (fun _ _ _ h => h) (Or.inl ⟨by rfl, ?_⟩) ?_ ?_
      rotate_left
      · intro w'
        go_simp
        with_reducible rfl
      rotate_left
      · simp only [Act.put, zSa, zSb, zSc, i64_w, i32_w]
        rfl
      refine pure_ (i := 17) (N := some 33) (v := ?_) (a' := ?_) #[true, true, true, true, true, true, true, true, true, true, true, true, true, true, true, true, true, true, false, false] rfl rfl (any_of HT_.out (by kernel_rfl)) (fun _ _ _ h => h) (Or.inl ⟨by rfl, ?_⟩) ?_ ?_
      rotate_left
      · intro w'
        go_simp
        with_reducible rfl
      rotate_left
      · simp only [Act.put, zSa, zSb, zSc, i64_w, i32_w]
        rfl
      refine pure_ (i := 18) (N := some 34) (v := ?_) (a' := ?_) #[true, true, true, true, true, true, true, true, true, true, true, true, true, true, true, true, true, true, true, false] rfl rfl (any_of HT_.out (by kernel_rfl)) (fun _ _ _ h => h) (Or.inl ⟨by rfl, ?_⟩) ?_ ?_
      rotate_left
      · intro w'
        go_simp
        with_reducible rfl
      rotate_left
      · simp only [Act.put, zSa, zSb, zSc, i64_w, i32_w]
        rfl
      refine last_ (i := 19) (N := none) #[true, true, true, true, true, true, true, true, true, true, true, true, true, true, true, true, true, true, true, true] rfl rfl (one_of HT_.out (by kernel_rfl)) (by decide) (fun K hK => ?_)
      refine skip_ (w1 := ?_) (by rfl) rfl ?_ ?_
      rotate_left
      · go_simp
        rfl
      refine hK.out _ _ ?_
      clear hK K
      refine done_ (done_of HT_.out (by kernel_rfl)) ?_
      try go_wp2
      go_roundg k1
      case measure => have := HK1.out; omega
      case rel => exact ⟨(y600), (wrap64 (x4_1 + 1)), (by first | rfl | (simp; done) | (simp [*]; done)), H', ⟨by have := HK1.out; omega⟩, ⟨by (with_reducible repeat (first | apply zRa | apply zRn | apply zRd)); (first | exact HQ18.out | (rw [hji14m]; exact HQ18.out))⟩, ⟨by exact uT HB.out⟩⟩
    · rw [if_neg c7] at H
      have c7b0 : decide (x4_1 < (l0.length : Int)) = false := decide_eq_false c7
      clear c7
      replace H := bnd H
      obtain ⟨t601, A190, H⟩ := H
      have A19 := zMk A190
      clear A190
      obtain rfl := zOi H
      obtain ⟨Ao20, co20, eo20⟩ := zRs HO_3.out
      subst eo20
      go_wp2_with (first | ((with_reducible refine gate_callee (f := 63) rfl ?_); refine goesL_ (some 36) rfl rfl Tryd.func63 (by kernel_rfl) rfl #[.slice Ao20 x3_1.length co20] rfl (by (try simp only [zMa, zMc, zMn]); first |  done|  rfl|  (simp only [zLd, zLt]; rfl)) ?_; (with_reducible refine (r1_Norm.calls k1 _ _ x3_1 t601 _ ?side1 ?side2 A19.out).mono ?_); (case side1 => exact uC (zRr HO_3.out).2.2); (case side2 => exact (zRr HO_3.out).2.1); rintro e w21 ⟨v602, rfl, ho0, hb⟩; refine ⟨_, rfl, ?_⟩; have HO603 := zMk (zRl (zRw ho0 (zRt (by exact uR HO_3.out))) (zBs (by exact uT HB.out))); replace HO_3 := zMk (zRe (by exact uR HO_3.out) (zRz ho0) hb); replace HB := zMk (zBt (by exact uT HB.out) hb)))
      go_ret
      exact ⟨_, by first | rfl | (simp [errW_none, errW_some] <;> rfl) | (simp only [← hji2]; first | rfl | (simp [errW_none, errW_some] <;> rfl)) | (simp [*, errW_none, errW_some] <;> rfl), by (with_reducible repeat (first | apply zRa | apply zRn | apply zRd)); exact zRm HO603.out (fun _ hk => trivial), by exact uT HB.out⟩
  · rw [if_neg c3] at H
    exact absurd H (by simp)


def r1_at.f (l0 : List Int) (a1 : Int) : Option (Int) := if a1 < (l0.length : Int) then (if 0 ≤ a1 then (some (rd l0 a1)) else (none)) else (some 0)
theorem r1_at.calls (A0 : Option Addr) (c0 : Nat) (l0 : List Int) (a1 : Int) (r : Int) (w : World) (hr0 : Kd.C (Kd.int .u8) w A0 l0.length l0) (hc0 : l0.length ≤ c0) (h : r1_at.f l0 a1 = some r) :
    Calls Tryd.prog 68 #[.slice A0 l0.length c0, .int .i64 a1] w fun e w' => e = .returned (.int .u8 r) ∧ Drawn0 w w' := by
  have HR0 := zMk hr0
  have HC0 := zMk hc0
  clear hr0 hc0
  have H : (if a1 < (l0.length : Int) then (if 0 ≤ a1 then (some (rd l0 a1)) else (none)) else (some 0)) = some r := h
  clear h
  by_cases c3 : a1 < (l0.length : Int)
  · rw [if_pos c3] at H
    have c3b0 : decide (a1 < (l0.length : Int)) = true := decide_eq_true c3
    clear c3
    by_cases c4 : 0 ≤ a1
    rotate_left
    · rw [if_neg c4] at H; exact absurd H (by simp)
    rw [if_pos c4] at H
    have c4b0 : decide (0 ≤ a1) = true := decide_eq_true c4
    clear c4
    obtain rfl := zOi H
    have p604 : 0 ≤ (a1 : Int) := of_decide_eq_true (by assumption)
    have q604 : a1 < (l0.length : Int) := of_decide_eq_true (by assumption)
    obtain ⟨ad604, e604, hx604_0⟩ := zAi HR0.out a1 p604 q604
    cases e604
    replace p604 := eq_true p604
    replace q604 := eq_true q604
    go_enter Tryd.func68, Tryd.ntmps68
    go_wp2
    go_ret
    exact ⟨by first | rfl | (simp; done) | (simp [*]; done), by repeat (first | exact Drawn0.refl _ | apply Drawn0.step)⟩
  · rw [if_neg c3] at H
    have c3b0 : decide (a1 < (l0.length : Int)) = false := decide_eq_false c3
    clear c3
    obtain rfl := zOi H
    go_enter Tryd.func68, Tryd.ntmps68
    go_wp2
    go_ret
    exact ⟨by first | rfl | (simp; done) | (simp [*]; done), by repeat (first | exact Drawn0.refl _ | apply Drawn0.step)⟩


def r1_sum.l0 : Nat → List Int → List Int → List Int → Int → Int → Option (List Int)
  | 0, _, _, _, _, _ => none
  | k + 1, x0, x1, x5, x6, x7 => if x7 ≤ (mx (x0.length : Int) (x1.length : Int)) then ((r1_at.f x0 x7).bind fun t605 => ((r1_at.f x1 x7).bind fun t606 => (if x5.length < 140737488355328 then (r1_sum.l0 k x0 x1 (x5 ++ [Go.bits .and .u8 ((((t605 + t606) % 256) + x6) % 256) 1]) (((((t605 + t606) % 256) + x6) % 256) / 2) (wrap64 (x7 + 1))) else (none)))) else (some x5)
def r1_sum.f (k : Nat) (l0 : List Int) (l1 : List Int) : Option (List Int) := r1_sum.l0 k l0 l1 ([] : List Int) 0 0
theorem r1_sum.calls (k : Nat) (A0 : Option Addr) (c0 : Nat) (l0 : List Int) (A1 : Option Addr) (c1 : Nat) (l1 : List Int) (r : List Int) (w : World) (hr0 : Kd.C (Kd.int .u8) w A0 l0.length l0) (hc0 : l0.length ≤ c0) (hr1 : Kd.C (Kd.int .u8) w A1 l1.length l1) (hc1 : l1.length ≤ c1) (h : r1_sum.f k l0 l1 = some r) :
    Calls Tryd.prog 67 #[.slice A0 l0.length c0, .slice A1 l1.length c1] w fun e w' => ∃ v0_ : Value, e = .returned (v0_) ∧ Kd.R (Kd.int .u8) 5 w' w.heap.size (fun _ => True) v0_ r ∧ Below w.heap.size w w' := by
  have HR0 := zMk hr0
  have HC0 := zMk hc0
  clear hr0 hc0
  have HR1 := zMk hr1
  have HC1 := zMk hc1
  clear hr1 hc1
  have HB := zMk (Below.refl w.heap.size w)
  have H : (r1_sum.l0 k l0 l1 ([] : List Int) 0 0) = some r := h
  clear h
  have H' := zMk H
  clear H
  go_enter Tryd.func67, Tryd.ntmps67
  go_wp2
  go_loopg [5, 6, 7] k (fun kq v5 v6 v7 w' => ∃ (x5_1 : List Int) (x6_1 : Int) (x7_1 : Int), v6 = .int .u8 x6_1 ∧ v7 = .int .i64 x7_1 ∧ Aside0 (r1_sum.l0 kq l0 l1 x5_1 x6_1 x7_1 = some r) ∧ Aside0 (kq ≤ k) ∧ Aside0 (Kd.R (Kd.int .u8) 5 w' w.heap.size (fun _ => True) v5 x5_1) ∧ Aside0 (Below w.heap.size w w'))
  case atStart => exact ⟨(([] : List Int)), (0), (0), (by first | rfl | (simp; done) | (simp [*]; done)), (by first | rfl | (simp; done) | (simp [*]; done)), H', ⟨Nat.le_refl _⟩, ⟨by first | exact Kd.R_nil _ _ _ _ _ | exact Kd.N_nil _ _ _ _ _ | exact Kd.V_nil _ _ _ _ _ | exact Kd.Q_nil _ _ _ _ _ | exact Kd.S_nil _ _ _ _ _⟩, ⟨by exact uT HB.out⟩⟩
  clear H'
  obtain ⟨x5_1, x6_1, x7_1, rfl, rfl, HA, HK1, HO_5, HB⟩ := hrel
  rcases gk with _ | k1
  · exact absurd HA.out (by simp [r1_sum.l0])
  have H := HA.out
  clear HA
  simp only [r1_sum.l0] at H
  obtain ⟨ji3, hji3⟩ : ∃ j_ : Int, (mx (l0.length : Int) (l1.length : Int)) = j_ := ⟨_, rfl⟩
  replace H : (if x7_1 ≤ (ji3) then ((r1_at.f l0 x7_1).bind fun t605 => ((r1_at.f l1 x7_1).bind fun t606 => (if x5_1.length < 140737488355328 then (r1_sum.l0 k1 l0 l1 (x5_1 ++ [Go.bits .and .u8 ((((t605 + t606) % 256) + x6_1) % 256) 1]) (((((t605 + t606) % 256) + x6_1) % 256) / 2) (wrap64 (x7_1 + 1))) else (none)))) else (some x5_1)) = some r := by first | (rw [hji3] at H; exact H) | (simp only [hji3] at H ⊢; exact H)
  have hji3_ : (if (l0.length : Int) < (l1.length : Int) then (l1.length : Int) else (l0.length : Int)) = ji3 := hji3
  have hji3_n : (if l0.length < l1.length then (l1.length : Int) else (l0.length : Int)) = ji3 := by rw [← hji3]; simp only [mx, mn, Int.ofNat_lt]
  by_cases c4 : x7_1 ≤ (ji3)
  · rw [if_pos c4] at H
    have c4b0 : decide (x7_1 ≤ (ji3)) = true := decide_eq_true c4
    clear c4
    replace H := bnd H
    obtain ⟨t605, A50, H⟩ := H
    have A5 := zMk A50
    clear A50
    replace H := bnd H
    obtain ⟨t606, A60, H⟩ := H
    have A6 := zMk A60
    clear A60
    by_cases c7 : x5_1.length < 140737488355328
    rotate_left
    · rw [if_neg c7] at H; exact absurd H (by simp)
    rw [if_pos c7] at H
    have LMc7 := zMk c7
    clear c7
    obtain ⟨y607, hy607⟩ : ∃ y_ : List Int, y_ = (x5_1 ++ [Go.bits .and .u8 ((((t605 + t606) % 256) + x6_1) % 256) 1]) := ⟨_, rfl⟩
    replace H : (r1_sum.l0 k1 l0 l1 y607 (((((t605 + t606) % 256) + x6_1) % 256) / 2) (wrap64 (x7_1 + 1))) = some r := by first | (rw [hy607]; with_reducible exact H) | (have H2_ := bsm H; first | (rw [hy607]; with_reducible exact H2_) | with_reducible exact H2_) | with_reducible exact H | (rw [hy607]; exact H) | exact H
    have Ny607 := zMk hy607
    clear hy607
    have H' := zMk H
    clear H
    go_wp2_with (first | ((with_reducible refine gate_callee (f := 68) rfl ?_); refine goesL_ (some 20) rfl rfl Tryd.func68 (by kernel_rfl) rfl #[.slice A0 l0.length c0, .int .i64 x7_1] rfl (by (try simp only [zMa, zMc, zMn]); first |  done|  rfl|  (simp only [zLd, zLt]; rfl)) ?_; (with_reducible refine (r1_at.calls _ _ l0 x7_1 t605 _ ?side1 ?side2 A5.out).mono ?_); (case side1 => repeat (first |  exact (Kd.C_below HR0.out HB.out)|(with_reducible refine zCa ?_ _)|(with_reducible refine zCn ?_ _)|(with_reducible refine zCd ?_))); (case side2 => exact HC0.out); rintro e w' ⟨rfl, ⟨nd, rfl⟩⟩; refine ⟨_, rfl, ?_⟩)|((with_reducible refine gate_callee (f := 68) rfl ?_); refine goesL_ (some 23) rfl rfl Tryd.func68 (by kernel_rfl) rfl #[.slice A1 l1.length c1, .int .i64 x7_1] rfl (by (try simp only [zMa, zMc, zMn]); first |  done|  rfl|  (simp only [zLd, zLt]; rfl)) ?_; (with_reducible refine (r1_at.calls _ _ l1 x7_1 t606 _ ?side1 ?side2 A6.out).mono ?_); (case side1 => repeat (first |  exact (Kd.C_below HR1.out (by exact uT HB.out))|(with_reducible refine zCa ?_ _)|(with_reducible refine zCn ?_ _)|(with_reducible refine zCd ?_))); (case side2 => exact HC1.out); rintro e w' ⟨rfl, ⟨nd, rfl⟩⟩; refine ⟨_, rfl, ?_⟩)|((with_reducible refine gate_builtin (b := .append) (xs := #[.tmp 27, .tmp 30]) rfl ?_); at_builtin; refine Kd.R_append (Kd.int .u8) (w0 := w) w.heap.size rfl (.tmp 27) (.tmp 30) 67 5 (.int .u8 0) 1 rfl Tryd.underlying67 info5 rfl (by decide) (by omega) u5 x5_1 (Go.bits .and .u8 ((t605 + t606 + x6_1) % 256) 1) [.int .u8 (Go.bits .and .u8 ((t605 + t606 + x6_1) % 256) 1)] (fun _ => True) (fun _ => False) rfl rfl ?aP (fun _ hk => hk.elim) ?aF ?aO ?aB ?aS ?aL ?_; (case aP => exact rfl); (case aB => exact (by exact uT HB.out)); (case aF => exact (fun _ _ => trivial)); (case aO => exact (by exact uR HO_5.out)); (case aS => exact (zBs (by exact uT HB.out))); (case aL => have := LMc7.out; omega); intro v608 w8 ho hb hg hat; rw [show ((t605 + t606 + x6_1) % 256) = ((((t605 + t606) % 256) + x6_1) % 256) from by omega] at ho; rw [← Ny607.out] at ho; replace HB := zMk (hb); have HO609 := zMk (ho); clear HO_5 ho hb hg hat))
    go_roundg k1
    case measure => have := HK1.out; omega
    case rel => exact ⟨(y607), (((((t605 + t606) % 256) + x6_1) % 256) / 2), (wrap64 (x7_1 + 1)), (by first | rfl | (simp; done) | (simp [*]; done)), (by first | rfl | (simp; done) | (simp [*]; done)), H', ⟨by have := HK1.out; omega⟩, ⟨by exact uR HO609.out⟩, ⟨by exact uT HB.out⟩⟩
  · rw [if_neg c4] at H
    have c4b0 : decide (x7_1 ≤ (ji3)) = false := decide_eq_false c4
    clear c4
    obtain rfl := zOi H
    go_wp2
    go_ret
    exact ⟨_, by first | rfl | (simp [errW_none, errW_some] <;> rfl) | (simp only [← hji3]; first | rfl | (simp [errW_none, errW_some] <;> rfl)) | (simp [*, errW_none, errW_some] <;> rfl), by exact uR HO_5.out, by exact uT HB.out⟩


def r1_Add.f (k : Nat) (l0 : List Int) (l1 : List Int) : Option (List Int) := (r1_bits.f k l0).bind fun t610 => ((r1_bits.f k l1).bind fun t613 => ((r1_sum.f k t610 t613).bind fun t616 => ((r1_limbs.f k t616).bind fun t619 => (some t619))))
theorem r1_Add.calls (k : Nat) (A0 : Option Addr) (c0 : Nat) (l0 : List Int) (A1 : Option Addr) (c1 : Nat) (l1 : List Int) (r : List Int) (w : World) (hr0 : Kd.C (Kd.int .u32) w A0 l0.length l0) (hc0 : l0.length ≤ c0) (hr1 : Kd.C (Kd.int .u32) w A1 l1.length l1) (hc1 : l1.length ≤ c1) (h : r1_Add.f k l0 l1 = some r) :
    Calls Tryd.prog 41 #[.slice A0 l0.length c0, .slice A1 l1.length c1] w fun e w' => ∃ v0_ : Value, e = .returned (v0_) ∧ Kd.R (Kd.int .u32) 58 w' w.heap.size (fun _ => True) v0_ r ∧ Below w.heap.size w w' := by
  have HR0 := zMk hr0
  have HC0 := zMk hc0
  clear hr0 hc0
  have HR1 := zMk hr1
  have HC1 := zMk hc1
  clear hr1 hc1
  have HB := zMk (Below.refl w.heap.size w)
  have H : ((r1_bits.f k l0).bind fun t610 => ((r1_bits.f k l1).bind fun t613 => ((r1_sum.f k t610 t613).bind fun t616 => ((r1_limbs.f k t616).bind fun t619 => (some t619))))) = some r := h
  clear h
  replace H := bnd H
  obtain ⟨t610, A30, H⟩ := H
  have A3 := zMk A30
  clear A30
  replace H := bnd H
  obtain ⟨t613, A40, H⟩ := H
  have A4 := zMk A40
  clear A40
  replace H := bnd H
  obtain ⟨t616, A50, H⟩ := H
  have A5 := zMk A50
  clear A50
  replace H := bnd H
  obtain ⟨t619, A60, H⟩ := H
  have A6 := zMk A60
  clear A60
  obtain rfl := zOi H
  go_enter Tryd.func41, Tryd.ntmps41
  go_wp2_with (first | ((with_reducible refine gate_callee (f := 64) rfl ?_); refine goesL_ (some 6) rfl rfl Tryd.func64 (by kernel_rfl) rfl #[.slice A0 l0.length c0] rfl (by (try simp only [zMa, zMc, zMn]); first |  done|  rfl|  (simp only [zLd, zLt]; rfl)) ?_; (with_reducible refine (r1_bits.calls k _ _ l0 t610 _ ?side1 ?side2 A3.out).mono ?_); (case side1 => repeat (first |  exact HR0.out|  (with_reducible refine zCa ?_ _)|(with_reducible refine zCn ?_ _)|(with_reducible refine zCd ?_))); (case side2 => exact HC0.out); rintro e w7 ⟨v611, rfl, ho0, hb⟩; refine ⟨_, rfl, ?_⟩; have HO612 := zMk (zRl ho0 (zBs (by exact uT HB.out))); replace HB := zMk (zBt (by exact uT HB.out) hb))|((with_reducible refine gate_callee (f := 64) rfl ?_); refine goesL_ (some 8) rfl rfl Tryd.func64 (by kernel_rfl) rfl #[.slice A1 l1.length c1] rfl (by (try simp only [zMa, zMc, zMn]); first |  done|  rfl|  (simp only [zLd, zLt]; rfl)) ?_; (with_reducible refine (r1_bits.calls k _ _ l1 t613 _ ?side1 ?side2 A4.out).mono ?_); (case side1 => repeat (first |  exact (Kd.C_below HR1.out HB.out)|(with_reducible refine zCa ?_ _)|(with_reducible refine zCn ?_ _)|(with_reducible refine zCd ?_))); (case side2 => exact HC1.out); rintro e w8 ⟨v614, rfl, ho0, hb⟩; refine ⟨_, rfl, ?_⟩; have HO615 := zMk (zRl (zRw ho0 (zRt (by exact uR HO612.out))) (zBs (by exact uT HB.out))); replace HO612 := zMk (zRe (by exact uR HO612.out) (zRz ho0) hb); replace HB := zMk (zBt (by exact uT HB.out) hb); obtain ⟨Ao9, co9, eo9⟩ := zRs HO612.out; subst eo9; obtain ⟨Ao10, co10, eo10⟩ := zRs HO615.out; subst eo10)|((with_reducible refine gate_callee (f := 67) rfl ?_); refine goesL_ (some 9) rfl rfl Tryd.func67 (by kernel_rfl) rfl #[.slice Ao9 t610.length co9, .slice Ao10 t613.length co10] rfl (by (try simp only [zMa, zMc, zMn]); first |  done|  rfl|  (simp only [zLd, zLt]; rfl)) ?_; (with_reducible refine (r1_sum.calls k _ _ t610 _ _ t613 t616 _ ?side1 ?side2 ?side3 ?side4 A5.out).mono ?_); (case side1 => exact uC (zRr HO612.out).2.2); (case side2 => exact (zRr HO612.out).2.1); (case side3 => exact uC (zRr HO615.out).2.2); (case side4 => exact (zRr HO615.out).2.1); rintro e w11 ⟨v617, rfl, ho0, hb⟩; refine ⟨_, rfl, ?_⟩; have HO618 := zMk (zRl (zRw (zRw ho0 (zRt (by exact uR HO612.out))) (zRt (by exact uR HO615.out))) (zBs (by exact uT HB.out))); replace HO612 := zMk (zRe (by exact uR HO612.out) (zRz ho0) hb); replace HO615 := zMk (zRe (by exact uR HO615.out) (zRz ho0) hb); replace HB := zMk (zBt (by exact uT HB.out) hb); obtain ⟨Ao12, co12, eo12⟩ := zRs HO618.out; subst eo12)|((with_reducible refine gate_callee (f := 65) rfl ?_); refine goesL_ (some 10) rfl rfl Tryd.func65 (by kernel_rfl) rfl #[.slice Ao12 t616.length co12] rfl (by (try simp only [zMa, zMc, zMn]); first |  done|  rfl|  (simp only [zLd, zLt]; rfl)) ?_; (with_reducible refine (r1_limbs.calls k _ _ t616 t619 _ ?side1 ?side2 A6.out).mono ?_); (case side1 => exact uC (zRr HO618.out).2.2); (case side2 => exact (zRr HO618.out).2.1); rintro e w13 ⟨v620, rfl, ho0, hb⟩; refine ⟨_, rfl, ?_⟩; replace HO612 := zMk (zRb (by exact uR HO612.out) hb); replace HO615 := zMk (zRb (by exact uR HO615.out) hb); replace HO618 := zMk (zRb (by exact uR HO618.out) hb); have HO621 := zMk (zRl ho0 (zBs (by exact uT HB.out))); replace HB := zMk (zBt (by exact uT HB.out) hb)))
  go_ret
  exact ⟨_, by first | rfl | (simp [errW_none, errW_some] <;> rfl) | (simp [*, errW_none, errW_some] <;> rfl), by exact uR HO621.out, by exact uT HB.out⟩


def r1_Cmp.l0 : Nat → List Int → List Int → Int → Option (Int)
  | 0, _, _, _ => none
  | k + 1, x5, x6, x7 => if x7 ≥ 0 then ((r1_at.f x5 x7).bind fun t628 => ((r1_at.f x6 x7).bind fun t629 => (if t628 < t629 then (some (-1)) else ((r1_at.f x5 x7).bind fun t630 => ((r1_at.f x6 x7).bind fun t631 => (if t630 > t631 then (some 1) else (r1_Cmp.l0 k x5 x6 (wrap64 (x7 - 1))))))))) else (some 0)
def r1_Cmp.f (k : Nat) (l0 : List Int) (l1 : List Int) : Option (Int) := (r1_bits.f k l0).bind fun t622 => ((r1_bits.f k l1).bind fun t625 => (r1_Cmp.l0 k t622 t625 (wrap64 ((mx (t622.length : Int) (t625.length : Int)) - 1))))
theorem r1_Cmp.calls (k : Nat) (A0 : Option Addr) (c0 : Nat) (l0 : List Int) (A1 : Option Addr) (c1 : Nat) (l1 : List Int) (r : Int) (w : World) (hr0 : Kd.C (Kd.int .u32) w A0 l0.length l0) (hc0 : l0.length ≤ c0) (hr1 : Kd.C (Kd.int .u32) w A1 l1.length l1) (hc1 : l1.length ≤ c1) (h : r1_Cmp.f k l0 l1 = some r) :
    Calls Tryd.prog 42 #[.slice A0 l0.length c0, .slice A1 l1.length c1] w fun e w' => e = .returned (.int .i64 r) ∧ Below w.heap.size w w' := by
  have HR0 := zMk hr0
  have HC0 := zMk hc0
  clear hr0 hc0
  have HR1 := zMk hr1
  have HC1 := zMk hc1
  clear hr1 hc1
  have HB := zMk (Below.refl w.heap.size w)
  have H : ((r1_bits.f k l0).bind fun t622 => ((r1_bits.f k l1).bind fun t625 => (r1_Cmp.l0 k t622 t625 (wrap64 ((mx (t622.length : Int) (t625.length : Int)) - 1))))) = some r := h
  clear h
  replace H := bnd H
  obtain ⟨t622, A30, H⟩ := H
  have A3 := zMk A30
  clear A30
  replace H := bnd H
  obtain ⟨t625, A40, H⟩ := H
  have A4 := zMk A40
  clear A40
  obtain ⟨ji5, hji5⟩ : ∃ j_ : Int, (mx (t622.length : Int) (t625.length : Int)) = j_ := ⟨_, rfl⟩
  replace H : (r1_Cmp.l0 k t622 t625 (wrap64 ((ji5) - 1))) = some r := by first | (rw [hji5] at H; exact H) | (simp only [hji5] at H ⊢; exact H)
  (try rw [hji5] at A3)
  (try rw [hji5] at A4)
  (try (have hji5l : 0 ≤ ji5 := by (rw [← hji5]; unfold mx; (repeat' split) <;> omega)))
  (try (have hji5m : 0 ≤ ji5 := by omega))
  have hji5_ : (if (t622.length : Int) < (t625.length : Int) then (t625.length : Int) else (t622.length : Int)) = ji5 := hji5
  have hji5_n : (if t622.length < t625.length then (t625.length : Int) else (t622.length : Int)) = ji5 := by rw [← hji5]; simp only [mx, mn, Int.ofNat_lt]
  have H' := zMk H
  clear H
  go_enter Tryd.func42, Tryd.ntmps42
  go_wp2_with (first | ((with_reducible refine gate_callee (f := 64) rfl ?_); refine goesL_ (some 9) rfl rfl Tryd.func64 (by kernel_rfl) rfl #[.slice A0 l0.length c0] rfl (by (try simp only [zMa, zMc, zMn]); first |  done|  rfl|  (simp only [zLd, zLt]; rfl)) ?_; (with_reducible refine (r1_bits.calls k _ _ l0 t622 _ ?side1 ?side2 A3.out).mono ?_); (case side1 => repeat (first |  exact HR0.out|  (with_reducible refine zCa ?_ _)|(with_reducible refine zCn ?_ _)|(with_reducible refine zCd ?_))); (case side2 => exact HC0.out); rintro e w6 ⟨v623, rfl, ho0, hb⟩; refine ⟨_, rfl, ?_⟩; have HO624 := zMk (zRl ho0 (zBs (by exact uT HB.out))); replace HB := zMk (zBt (by exact uT HB.out) hb))|((with_reducible refine gate_callee (f := 64) rfl ?_); refine goesL_ (some 11) rfl rfl Tryd.func64 (by kernel_rfl) rfl #[.slice A1 l1.length c1] rfl (by (try simp only [zMa, zMc, zMn]); first |  done|  rfl|  (simp only [zLd, zLt]; rfl)) ?_; (with_reducible refine (r1_bits.calls k _ _ l1 t625 _ ?side1 ?side2 A4.out).mono ?_); (case side1 => repeat (first |  exact (Kd.C_below HR1.out HB.out)|(with_reducible refine zCa ?_ _)|(with_reducible refine zCn ?_ _)|(with_reducible refine zCd ?_))); (case side2 => exact HC1.out); rintro e w7 ⟨v626, rfl, ho0, hb⟩; refine ⟨_, rfl, ?_⟩; have HO627 := zMk (zRl (zRw ho0 (zRt (by exact uR HO624.out))) (zBs (by exact uT HB.out))); replace HO624 := zMk (zRe (by exact uR HO624.out) (zRz ho0) hb); replace HB := zMk (zBt (by exact uT HB.out) hb); obtain ⟨Ao8, co8, eo8⟩ := zRs HO624.out; subst eo8; obtain ⟨Ao9, co9, eo9⟩ := zRs HO627.out; subst eo9))
  go_loopg [7] k (fun kq v7 w' => ∃ (x7_1 : Int), v7 = .int .i64 x7_1 ∧ Aside0 (r1_Cmp.l0 kq t622 t625 x7_1 = some r) ∧ Aside0 (kq ≤ k) ∧ Aside0 (Kd.R (Kd.int .u8) 5 w' w.heap.size (fun k_ => some k_ ≠ ((.slice Ao9 t625.length co9) : Value).ownBlock) (.slice Ao8 t622.length co8) t622) ∧ Aside0 (Kd.R (Kd.int .u8) 5 w' w.heap.size (fun k_ => some k_ ≠ ((.slice Ao8 t622.length co8) : Value).ownBlock) (.slice Ao9 t625.length co9) t625) ∧ Aside0 (Below w.heap.size w w'))
  case atStart => exact ⟨(wrap64 ((ji5) - 1)), (by first | rfl | (simp; done) | (simp only [← hji5] <;> (first | rfl | simp)) | (simp [*]; done)), H', ⟨Nat.le_refl _⟩, ⟨by (with_reducible repeat (first | apply zRa | apply zRn | apply zRd)); exact zRm HO624.out (fun _ hk => hk.2)⟩, ⟨by (with_reducible repeat (first | apply zRa | apply zRn | apply zRd)); exact zRm HO627.out (fun _ hk => hk.2)⟩, ⟨by exact uT HB.out⟩⟩
  clear H'
  obtain ⟨x7_1, rfl, HA, HK1, HO_5, HO_6, HB⟩ := hrel
  rcases gk with _ | k1
  · exact absurd HA.out (by simp [r1_Cmp.l0])
  have H := HA.out
  clear HA
  simp only [r1_Cmp.l0] at H
  by_cases c10 : x7_1 ≥ 0
  · rw [if_pos c10] at H
    have c10b0 : decide (0 ≤ x7_1) = true := decide_eq_true c10
    clear c10
    replace H := bnd H
    obtain ⟨t628, A110, H⟩ := H
    have A11 := zMk A110
    clear A110
    replace H := bnd H
    obtain ⟨t629, A120, H⟩ := H
    have A12 := zMk A120
    clear A120
    by_cases c13 : t628 < t629
    · rw [if_pos c13] at H
      have c13b0 : decide (t628 < t629) = true := decide_eq_true c13
      clear c13
      obtain rfl := zOi H
      go_wp2_with (first | ((with_reducible refine gate_callee (f := 68) rfl ?_); refine goesL_ (some 24) rfl rfl Tryd.func68 (by kernel_rfl) rfl #[.slice Ao8 t622.length co8, .int .i64 x7_1] rfl (by (try simp only [zMa, zMc, zMn]); first | done | rfl | (simp only [zLd, zLt]; rfl)) ?_; (with_reducible refine (r1_at.calls _ _ t622 x7_1 t628 _ ?side1 ?side2 A11.out).mono ?_); (case side1 => exact uC (zRr HO_5.out).2.2); (case side2 => exact (zRr HO_5.out).2.1); rintro e w' ⟨rfl, ⟨nd, rfl⟩⟩; refine ⟨_, rfl, ?_⟩) | ((with_reducible refine gate_callee (f := 68) rfl ?_); refine goesL_ (some 27) rfl rfl Tryd.func68 (by kernel_rfl) rfl #[.slice Ao9 t625.length co9, .int .i64 x7_1] rfl (by (try simp only [zMa, zMc, zMn]); first | done | rfl | (simp only [zLd, zLt]; rfl)) ?_; (with_reducible refine (r1_at.calls _ _ t625 x7_1 t629 _ ?side1 ?side2 A12.out).mono ?_); (case side1 => exact uC (zRr HO_6.out).2.2); (case side2 => exact (zRr HO_6.out).2.1); rintro e w' ⟨rfl, ⟨nd, rfl⟩⟩; refine ⟨_, rfl, ?_⟩))
      go_ret
      exact ⟨by first | rfl | (simp [errW_none, errW_some] <;> rfl) | (simp only [← hji5]; first | rfl | (simp [errW_none, errW_some] <;> rfl)) | (simp [*, errW_none, errW_some] <;> rfl), by exact uT HB.out⟩
    · rw [if_neg c13] at H
      have c13b0 : decide (t628 < t629) = false := decide_eq_false c13
      clear c13
      replace H := bnd H
      obtain ⟨t630, A140, H⟩ := H
      have A14 := zMk A140
      clear A140
      replace H := bnd H
      obtain ⟨t631, A150, H⟩ := H
      have A15 := zMk A150
      clear A150
      by_cases c16 : t630 > t631
      · rw [if_pos c16] at H
        have c16b0 : decide (t631 < t630) = true := decide_eq_true c16
        clear c16
        obtain rfl := zOi H
        go_wp2_with (first | ((with_reducible refine gate_callee (f := 68) rfl ?_); refine goesL_ (some 24) rfl rfl Tryd.func68 (by kernel_rfl) rfl #[.slice Ao8 t622.length co8, .int .i64 x7_1] rfl (by (try simp only [zMa, zMc, zMn]); first | done | rfl | (simp only [zLd, zLt]; rfl)) ?_; (with_reducible refine (r1_at.calls _ _ t622 x7_1 t628 _ ?side1 ?side2 A11.out).mono ?_); (case side1 => exact uC (zRr HO_5.out).2.2); (case side2 => exact (zRr HO_5.out).2.1); rintro e w' ⟨rfl, ⟨nd, rfl⟩⟩; refine ⟨_, rfl, ?_⟩) | ((with_reducible refine gate_callee (f := 68) rfl ?_); refine goesL_ (some 27) rfl rfl Tryd.func68 (by kernel_rfl) rfl #[.slice Ao9 t625.length co9, .int .i64 x7_1] rfl (by (try simp only [zMa, zMc, zMn]); first | done | rfl | (simp only [zLd, zLt]; rfl)) ?_; (with_reducible refine (r1_at.calls _ _ t625 x7_1 t629 _ ?side1 ?side2 A12.out).mono ?_); (case side1 => exact uC (zRr HO_6.out).2.2); (case side2 => exact (zRr HO_6.out).2.1); rintro e w' ⟨rfl, ⟨nd, rfl⟩⟩; refine ⟨_, rfl, ?_⟩) | ((with_reducible refine gate_callee (f := 68) rfl ?_); refine goesL_ (some 31) rfl rfl Tryd.func68 (by kernel_rfl) rfl #[.slice Ao8 t622.length co8, .int .i64 x7_1] rfl (by (try simp only [zMa, zMc, zMn]); first | done | rfl | (simp only [zLd, zLt]; rfl)) ?_; (with_reducible refine (r1_at.calls _ _ t622 x7_1 t630 _ ?side1 ?side2 A14.out).mono ?_); (case side1 => exact uC (zRr HO_5.out).2.2); (case side2 => exact (zRr HO_5.out).2.1); rintro e w' ⟨rfl, ⟨nd, rfl⟩⟩; refine ⟨_, rfl, ?_⟩) | ((with_reducible refine gate_callee (f := 68) rfl ?_); refine goesL_ (some 34) rfl rfl Tryd.func68 (by kernel_rfl) rfl #[.slice Ao9 t625.length co9, .int .i64 x7_1] rfl (by (try simp only [zMa, zMc, zMn]); first | done | rfl | (simp only [zLd, zLt]; rfl)) ?_; (with_reducible refine (r1_at.calls _ _ t625 x7_1 t631 _ ?side1 ?side2 A15.out).mono ?_); (case side1 => exact uC (zRr HO_6.out).2.2); (case side2 => exact (zRr HO_6.out).2.1); rintro e w' ⟨rfl, ⟨nd, rfl⟩⟩; refine ⟨_, rfl, ?_⟩))
        go_ret
        exact ⟨by first | rfl | (simp [errW_none, errW_some] <;> rfl) | (simp only [← hji5]; first | rfl | (simp [errW_none, errW_some] <;> rfl)) | (simp [*, errW_none, errW_some] <;> rfl), by exact uT HB.out⟩
      · rw [if_neg c16] at H
        have c16b0 : decide (t631 < t630) = false := decide_eq_false c16
        clear c16
        have H' := zMk H
        clear H
        go_wp2_with (first | ((with_reducible refine gate_callee (f := 68) rfl ?_); refine goesL_ (some 24) rfl rfl Tryd.func68 (by kernel_rfl) rfl #[.slice Ao8 t622.length co8, .int .i64 x7_1] rfl (by (try simp only [zMa, zMc, zMn]); first | done | rfl | (simp only [zLd, zLt]; rfl)) ?_; (with_reducible refine (r1_at.calls _ _ t622 x7_1 t628 _ ?side1 ?side2 A11.out).mono ?_); (case side1 => exact uC (zRr HO_5.out).2.2); (case side2 => exact (zRr HO_5.out).2.1); rintro e w' ⟨rfl, ⟨nd, rfl⟩⟩; refine ⟨_, rfl, ?_⟩) | ((with_reducible refine gate_callee (f := 68) rfl ?_); refine goesL_ (some 27) rfl rfl Tryd.func68 (by kernel_rfl) rfl #[.slice Ao9 t625.length co9, .int .i64 x7_1] rfl (by (try simp only [zMa, zMc, zMn]); first | done | rfl | (simp only [zLd, zLt]; rfl)) ?_; (with_reducible refine (r1_at.calls _ _ t625 x7_1 t629 _ ?side1 ?side2 A12.out).mono ?_); (case side1 => exact uC (zRr HO_6.out).2.2); (case side2 => exact (zRr HO_6.out).2.1); rintro e w' ⟨rfl, ⟨nd, rfl⟩⟩; refine ⟨_, rfl, ?_⟩) | ((with_reducible refine gate_callee (f := 68) rfl ?_); refine goesL_ (some 31) rfl rfl Tryd.func68 (by kernel_rfl) rfl #[.slice Ao8 t622.length co8, .int .i64 x7_1] rfl (by (try simp only [zMa, zMc, zMn]); first | done | rfl | (simp only [zLd, zLt]; rfl)) ?_; (with_reducible refine (r1_at.calls _ _ t622 x7_1 t630 _ ?side1 ?side2 A14.out).mono ?_); (case side1 => exact uC (zRr HO_5.out).2.2); (case side2 => exact (zRr HO_5.out).2.1); rintro e w' ⟨rfl, ⟨nd, rfl⟩⟩; refine ⟨_, rfl, ?_⟩) | ((with_reducible refine gate_callee (f := 68) rfl ?_); refine goesL_ (some 34) rfl rfl Tryd.func68 (by kernel_rfl) rfl #[.slice Ao9 t625.length co9, .int .i64 x7_1] rfl (by (try simp only [zMa, zMc, zMn]); first | done | rfl | (simp only [zLd, zLt]; rfl)) ?_; (with_reducible refine (r1_at.calls _ _ t625 x7_1 t631 _ ?side1 ?side2 A15.out).mono ?_); (case side1 => exact uC (zRr HO_6.out).2.2); (case side2 => exact (zRr HO_6.out).2.1); rintro e w' ⟨rfl, ⟨nd, rfl⟩⟩; refine ⟨_, rfl, ?_⟩))
        go_roundg k1
        case measure => have := HK1.out; omega
        case rel => exact ⟨(wrap64 (x7_1 - 1)), (by first | rfl | (simp; done) | (simp [*]; done)), H', ⟨by have := HK1.out; omega⟩, ⟨by exact uR HO_5.out⟩, ⟨by exact uR HO_6.out⟩, ⟨by exact uT HB.out⟩⟩
  · rw [if_neg c10] at H
    have c10b0 : decide (0 ≤ x7_1) = false := decide_eq_false c10
    clear c10
    obtain rfl := zOi H
    go_wp2
    go_ret
    exact ⟨by first | rfl | (simp [errW_none, errW_some] <;> rfl) | (simp only [← hji5]; first | rfl | (simp [errW_none, errW_some] <;> rfl)) | (simp [*, errW_none, errW_some] <;> rfl), by exact uT HB.out⟩


def r1_less.l0 : Nat → List Int → List Int → List Int → Int → Int → Option (List Int)
  | 0, _, _, _, _, _ => none
  | k + 1, x0, x1, x5, x6, x7 => if x7 < (mx (x0.length : Int) (x1.length : Int)) then ((r1_at.f x0 x7).bind fun t632 => ((r1_at.f x1 x7).bind fun t633 => (if x5.length < 140737488355328 then (r1_less.l0 k x0 x1 (x5 ++ [Go.bits .and .u8 ((((((2 + t632) % 256) - t633) % 256) - x6) % 256) 1]) ((1 - (((((((2 + t632) % 256) - t633) % 256) - x6) % 256) / 2)) % 256) (wrap64 (x7 + 1))) else (none)))) else (some x5)
def r1_less.f (k : Nat) (l0 : List Int) (l1 : List Int) : Option (List Int) := r1_less.l0 k l0 l1 ([] : List Int) 0 0
theorem r1_less.calls (k : Nat) (A0 : Option Addr) (c0 : Nat) (l0 : List Int) (A1 : Option Addr) (c1 : Nat) (l1 : List Int) (r : List Int) (w : World) (hr0 : Kd.C (Kd.int .u8) w A0 l0.length l0) (hc0 : l0.length ≤ c0) (hr1 : Kd.C (Kd.int .u8) w A1 l1.length l1) (hc1 : l1.length ≤ c1) (h : r1_less.f k l0 l1 = some r) :
    Calls Tryd.prog 69 #[.slice A0 l0.length c0, .slice A1 l1.length c1] w fun e w' => ∃ v0_ : Value, e = .returned (v0_) ∧ Kd.R (Kd.int .u8) 5 w' w.heap.size (fun _ => True) v0_ r ∧ Below w.heap.size w w' := by
  have HR0 := zMk hr0
  have HC0 := zMk hc0
  clear hr0 hc0
  have HR1 := zMk hr1
  have HC1 := zMk hc1
  clear hr1 hc1
  have HB := zMk (Below.refl w.heap.size w)
  have H : (r1_less.l0 k l0 l1 ([] : List Int) 0 0) = some r := h
  clear h
  have H' := zMk H
  clear H
  go_enter Tryd.func69, Tryd.ntmps69
  go_wp2
  go_loopg [5, 6, 7] k (fun kq v5 v6 v7 w' => ∃ (x5_1 : List Int) (x6_1 : Int) (x7_1 : Int), v6 = .int .u8 x6_1 ∧ v7 = .int .i64 x7_1 ∧ Aside0 (r1_less.l0 kq l0 l1 x5_1 x6_1 x7_1 = some r) ∧ Aside0 (kq ≤ k) ∧ Aside0 (Kd.R (Kd.int .u8) 5 w' w.heap.size (fun _ => True) v5 x5_1) ∧ Aside0 (Below w.heap.size w w'))
  case atStart => exact ⟨(([] : List Int)), (0), (0), (by first | rfl | (simp; done) | (simp [*]; done)), (by first | rfl | (simp; done) | (simp [*]; done)), H', ⟨Nat.le_refl _⟩, ⟨by first | exact Kd.R_nil _ _ _ _ _ | exact Kd.N_nil _ _ _ _ _ | exact Kd.V_nil _ _ _ _ _ | exact Kd.Q_nil _ _ _ _ _ | exact Kd.S_nil _ _ _ _ _⟩, ⟨by exact uT HB.out⟩⟩
  clear H'
  obtain ⟨x5_1, x6_1, x7_1, rfl, rfl, HA, HK1, HO_5, HB⟩ := hrel
  rcases gk with _ | k1
  · exact absurd HA.out (by simp [r1_less.l0])
  have H := HA.out
  clear HA
  simp only [r1_less.l0] at H
  obtain ⟨ji3, hji3⟩ : ∃ j_ : Int, (mx (l0.length : Int) (l1.length : Int)) = j_ := ⟨_, rfl⟩
  replace H : (if x7_1 < (ji3) then ((r1_at.f l0 x7_1).bind fun t632 => ((r1_at.f l1 x7_1).bind fun t633 => (if x5_1.length < 140737488355328 then (r1_less.l0 k1 l0 l1 (x5_1 ++ [Go.bits .and .u8 ((((((2 + t632) % 256) - t633) % 256) - x6_1) % 256) 1]) ((1 - (((((((2 + t632) % 256) - t633) % 256) - x6_1) % 256) / 2)) % 256) (wrap64 (x7_1 + 1))) else (none)))) else (some x5_1)) = some r := by first | (rw [hji3] at H; exact H) | (simp only [hji3] at H ⊢; exact H)
  have hji3_ : (if (l0.length : Int) < (l1.length : Int) then (l1.length : Int) else (l0.length : Int)) = ji3 := hji3
  have hji3_n : (if l0.length < l1.length then (l1.length : Int) else (l0.length : Int)) = ji3 := by rw [← hji3]; simp only [mx, mn, Int.ofNat_lt]
  by_cases c4 : x7_1 < (ji3)
  · rw [if_pos c4] at H
    have c4b0 : decide (x7_1 < (ji3)) = true := decide_eq_true c4
    clear c4
    replace H := bnd H
    obtain ⟨t632, A50, H⟩ := H
    have A5 := zMk A50
    clear A50
    replace H := bnd H
    obtain ⟨t633, A60, H⟩ := H
    have A6 := zMk A60
    clear A60
    by_cases c7 : x5_1.length < 140737488355328
    rotate_left
    · rw [if_neg c7] at H; exact absurd H (by simp)
    rw [if_pos c7] at H
    have LMc7 := zMk c7
    clear c7
    obtain ⟨y634, hy634⟩ : ∃ y_ : List Int, y_ = (x5_1 ++ [Go.bits .and .u8 ((((((2 + t632) % 256) - t633) % 256) - x6_1) % 256) 1]) := ⟨_, rfl⟩
    replace H : (r1_less.l0 k1 l0 l1 y634 ((1 - (((((((2 + t632) % 256) - t633) % 256) - x6_1) % 256) / 2)) % 256) (wrap64 (x7_1 + 1))) = some r := by first | (rw [hy634]; with_reducible exact H) | (have H2_ := bsm H; first | (rw [hy634]; with_reducible exact H2_) | with_reducible exact H2_) | with_reducible exact H | (rw [hy634]; exact H) | exact H
    have Ny634 := zMk hy634
    clear hy634
    have H' := zMk H
    clear H
    go_wp2_with (first | ((with_reducible refine gate_callee (f := 68) rfl ?_); refine goesL_ (some 20) rfl rfl Tryd.func68 (by kernel_rfl) rfl #[.slice A0 l0.length c0, .int .i64 x7_1] rfl (by (try simp only [zMa, zMc, zMn]); first |  done|  rfl|  (simp only [zLd, zLt]; rfl)) ?_; (with_reducible refine (r1_at.calls _ _ l0 x7_1 t632 _ ?side1 ?side2 A5.out).mono ?_); (case side1 => repeat (first |  exact (Kd.C_below HR0.out HB.out)|(with_reducible refine zCa ?_ _)|(with_reducible refine zCn ?_ _)|(with_reducible refine zCd ?_))); (case side2 => exact HC0.out); rintro e w' ⟨rfl, ⟨nd, rfl⟩⟩; refine ⟨_, rfl, ?_⟩)|((with_reducible refine gate_callee (f := 68) rfl ?_); refine goesL_ (some 24) rfl rfl Tryd.func68 (by kernel_rfl) rfl #[.slice A1 l1.length c1, .int .i64 x7_1] rfl (by (try simp only [zMa, zMc, zMn]); first |  done|  rfl|  (simp only [zLd, zLt]; rfl)) ?_; (with_reducible refine (r1_at.calls _ _ l1 x7_1 t633 _ ?side1 ?side2 A6.out).mono ?_); (case side1 => repeat (first |  exact (Kd.C_below HR1.out (by exact uT HB.out))|(with_reducible refine zCa ?_ _)|(with_reducible refine zCn ?_ _)|(with_reducible refine zCd ?_))); (case side2 => exact HC1.out); rintro e w' ⟨rfl, ⟨nd, rfl⟩⟩; refine ⟨_, rfl, ?_⟩)|((with_reducible refine gate_builtin (b := .append) (xs := #[.tmp 28, .tmp 31]) rfl ?_); at_builtin; refine Kd.R_append (Kd.int .u8) (w0 := w) w.heap.size rfl (.tmp 28) (.tmp 31) 67 5 (.int .u8 0) 1 rfl Tryd.underlying67 info5 rfl (by decide) (by omega) u5 x5_1 (Go.bits .and .u8 ((2 + t632 - t633 - x6_1) % 256) 1) [.int .u8 (Go.bits .and .u8 ((2 + t632 - t633 - x6_1) % 256) 1)] (fun _ => True) (fun _ => False) rfl rfl ?aP (fun _ hk => hk.elim) ?aF ?aO ?aB ?aS ?aL ?_; (case aP => exact rfl); (case aB => exact (by exact uT HB.out)); (case aF => exact (fun _ _ => trivial)); (case aO => exact (by exact uR HO_5.out)); (case aS => exact (zBs (by exact uT HB.out))); (case aL => have := LMc7.out; omega); intro v635 w8 ho hb hg hat; rw [show ((2 + t632 - t633 - x6_1) % 256) = ((((((2 + t632) % 256) - t633) % 256) - x6_1) % 256) from by omega] at ho; rw [← Ny634.out] at ho; replace HB := zMk (hb); have HO636 := zMk (ho); clear HO_5 ho hb hg hat))
    go_roundg k1
    case measure => have := HK1.out; omega
    case rel => exact ⟨(y634), ((1 - (((((((2 + t632) % 256) - t633) % 256) - x6_1) % 256) / 2)) % 256), (wrap64 (x7_1 + 1)), (by first | rfl | (simp; done) | (simp [*]; done)), (by first | rfl | (simp; done) | (simp [*]; done)), H', ⟨by have := HK1.out; omega⟩, ⟨by exact uR HO636.out⟩, ⟨by exact uT HB.out⟩⟩
  · rw [if_neg c4] at H
    have c4b0 : decide (x7_1 < (ji3)) = false := decide_eq_false c4
    clear c4
    obtain rfl := zOi H
    go_wp2
    go_ret
    exact ⟨_, by first | rfl | (simp [errW_none, errW_some] <;> rfl) | (simp only [← hji3]; first | rfl | (simp [errW_none, errW_some] <;> rfl)) | (simp [*, errW_none, errW_some] <;> rfl), by exact uR HO_5.out, by exact uT HB.out⟩


def r1_Sub.f (k : Nat) (l0 : List Int) (l1 : List Int) : Option (List Int × Int) := (r1_Cmp.f k l0 l1).bind fun t637 => (if t637 < 0 then (some (([] : List Int), 17)) else ((r1_bits.f k l0).bind fun t638 => ((r1_bits.f k l1).bind fun t641 => ((r1_less.f k t638 t641).bind fun t644 => ((r1_limbs.f k t644).bind fun t647 => (some (t647, 0)))))))
theorem r1_Sub.calls (k : Nat) (A0 : Option Addr) (c0 : Nat) (l0 : List Int) (A1 : Option Addr) (c1 : Nat) (l1 : List Int) (r1 : List Int) (r2 : Int) (w : World) (hr0 : Kd.C (Kd.int .u32) w A0 l0.length l0) (hc0 : l0.length ≤ c0) (hr1 : Kd.C (Kd.int .u32) w A1 l1.length l1) (hc1 : l1.length ≤ c1) (h : r1_Sub.f k l0 l1 = some (r1, r2)) :
    Calls Tryd.prog 43 #[.slice A0 l0.length c0, .slice A1 l1.length c1] w fun e w' => ∃ v0_ : Value, e = .returned (.tuple #[v0_, .int .i64 r2]) ∧ Kd.R (Kd.int .u32) 58 w' w.heap.size (fun _ => True) v0_ r1 ∧ Below w.heap.size w w' := by
  have HR0 := zMk hr0
  have HC0 := zMk hc0
  clear hr0 hc0
  have HR1 := zMk hr1
  have HC1 := zMk hc1
  clear hr1 hc1
  have HB := zMk (Below.refl w.heap.size w)
  have H : ((r1_Cmp.f k l0 l1).bind fun t637 => (if t637 < 0 then (some (([] : List Int), 17)) else ((r1_bits.f k l0).bind fun t638 => ((r1_bits.f k l1).bind fun t641 => ((r1_less.f k t638 t641).bind fun t644 => ((r1_limbs.f k t644).bind fun t647 => (some (t647, 0)))))))) = some (r1, r2) := h
  clear h
  replace H := bnd H
  obtain ⟨t637, A30, H⟩ := H
  have A3 := zMk A30
  clear A30
  by_cases c4 : t637 < 0
  · rw [if_pos c4] at H
    have c4b0 : decide (t637 < 0) = true := decide_eq_true c4
    clear c4
    simp only [Option.some.injEq, Prod.mk.injEq] at H
    obtain ⟨rfl, rfl⟩ := H
    go_enter Tryd.func43, Tryd.ntmps43
    go_wp2_with (first | ((with_reducible refine gate_callee (f := 42) rfl ?_); refine goesL_ (some 8) rfl rfl Tryd.func42 (by kernel_rfl) rfl #[.slice A0 l0.length c0, .slice A1 l1.length c1] rfl (by (try simp only [zMa, zMc, zMn]); first |  done|  rfl|  (simp only [zLd, zLt]; rfl)) ?_; (with_reducible refine (r1_Cmp.calls k _ _ l0 _ _ l1 t637 _ ?side1 ?side2 ?side3 ?side4 A3.out).mono ?_); (case side1 => repeat (first |  exact HR0.out|  (with_reducible refine zCa ?_ _)|(with_reducible refine zCn ?_ _)|(with_reducible refine zCd ?_))); (case side2 => exact HC0.out); (case side3 => repeat (first |  exact HR1.out|  (with_reducible refine zCa ?_ _)|(with_reducible refine zCn ?_ _)|(with_reducible refine zCd ?_))); (case side4 => exact HC1.out); rintro e w5 ⟨rfl, hb⟩; refine ⟨_, rfl, ?_⟩; replace HB := zMk (zBt (by exact uT HB.out) hb)))
    go_ret2
    exact ⟨_, by first | rfl | (simp [errW_none, errW_some] <;> rfl) | (simp [*, errW_none, errW_some] <;> rfl), by first | exact Kd.R_nil _ _ _ _ _ | exact Kd.N_nil _ _ _ _ _ | exact Kd.V_nil _ _ _ _ _ | exact Kd.Q_nil _ _ _ _ _ | exact Kd.S_nil _ _ _ _ _, by exact uT HB.out⟩
  · rw [if_neg c4] at H
    have c4b0 : decide (t637 < 0) = false := decide_eq_false c4
    clear c4
    replace H := bnd H
    obtain ⟨t638, A60, H⟩ := H
    have A6 := zMk A60
    clear A60
    replace H := bnd H
    obtain ⟨t641, A70, H⟩ := H
    have A7 := zMk A70
    clear A70
    replace H := bnd H
    obtain ⟨t644, A80, H⟩ := H
    have A8 := zMk A80
    clear A80
    replace H := bnd H
    obtain ⟨t647, A90, H⟩ := H
    have A9 := zMk A90
    clear A90
    simp only [Option.some.injEq, Prod.mk.injEq] at H
    obtain ⟨rfl, rfl⟩ := H
    go_enter Tryd.func43, Tryd.ntmps43
    go_wp2_with (first | ((with_reducible refine gate_callee (f := 42) rfl ?_); refine goesL_ (some 8) rfl rfl Tryd.func42 (by kernel_rfl) rfl #[.slice A0 l0.length c0, .slice A1 l1.length c1] rfl (by (try simp only [zMa, zMc, zMn]); first |  done|  rfl|  (simp only [zLd, zLt]; rfl)) ?_; (with_reducible refine (r1_Cmp.calls k _ _ l0 _ _ l1 t637 _ ?side1 ?side2 ?side3 ?side4 A3.out).mono ?_); (case side1 => repeat (first |  exact HR0.out|  (with_reducible refine zCa ?_ _)|(with_reducible refine zCn ?_ _)|(with_reducible refine zCd ?_))); (case side2 => exact HC0.out); (case side3 => repeat (first |  exact HR1.out|  (with_reducible refine zCa ?_ _)|(with_reducible refine zCn ?_ _)|(with_reducible refine zCd ?_))); (case side4 => exact HC1.out); rintro e w10 ⟨rfl, hb⟩; refine ⟨_, rfl, ?_⟩; replace HB := zMk (zBt (by exact uT HB.out) hb))|((with_reducible refine gate_callee (f := 64) rfl ?_); refine goesL_ (some 11) rfl rfl Tryd.func64 (by kernel_rfl) rfl #[.slice A0 l0.length c0] rfl (by (try simp only [zMa, zMc, zMn]); first |  done|  rfl|  (simp only [zLd, zLt]; rfl)) ?_; (with_reducible refine (r1_bits.calls k _ _ l0 t638 _ ?side1 ?side2 A6.out).mono ?_); (case side1 => repeat (first |  exact (Kd.C_below HR0.out HB.out)|(with_reducible refine zCa ?_ _)|(with_reducible refine zCn ?_ _)|(with_reducible refine zCd ?_))); (case side2 => exact HC0.out); rintro e w11 ⟨v639, rfl, ho0, hb⟩; refine ⟨_, rfl, ?_⟩; have HO640 := zMk (zRl ho0 (zBs (by exact uT HB.out))); replace HB := zMk (zBt (by exact uT HB.out) hb))|((with_reducible refine gate_callee (f := 64) rfl ?_); refine goesL_ (some 13) rfl rfl Tryd.func64 (by kernel_rfl) rfl #[.slice A1 l1.length c1] rfl (by (try simp only [zMa, zMc, zMn]); first |  done|  rfl|  (simp only [zLd, zLt]; rfl)) ?_; (with_reducible refine (r1_bits.calls k _ _ l1 t641 _ ?side1 ?side2 A7.out).mono ?_); (case side1 => repeat (first |  exact (Kd.C_below HR1.out HB.out)|(with_reducible refine zCa ?_ _)|(with_reducible refine zCn ?_ _)|(with_reducible refine zCd ?_))); (case side2 => exact HC1.out); rintro e w12 ⟨v642, rfl, ho0, hb⟩; refine ⟨_, rfl, ?_⟩; have HO643 := zMk (zRl (zRw ho0 (zRt (by exact uR HO640.out))) (zBs (by exact uT HB.out))); replace HO640 := zMk (zRe (by exact uR HO640.out) (zRz ho0) hb); replace HB := zMk (zBt (by exact uT HB.out) hb); obtain ⟨Ao13, co13, eo13⟩ := zRs HO640.out; subst eo13; obtain ⟨Ao14, co14, eo14⟩ := zRs HO643.out; subst eo14)|((with_reducible refine gate_callee (f := 69) rfl ?_); refine goesL_ (some 14) rfl rfl Tryd.func69 (by kernel_rfl) rfl #[.slice Ao13 t638.length co13, .slice Ao14 t641.length co14] rfl (by (try simp only [zMa, zMc, zMn]); first |  done|  rfl|  (simp only [zLd, zLt]; rfl)) ?_; (with_reducible refine (r1_less.calls k _ _ t638 _ _ t641 t644 _ ?side1 ?side2 ?side3 ?side4 A8.out).mono ?_); (case side1 => exact uC (zRr HO640.out).2.2); (case side2 => exact (zRr HO640.out).2.1); (case side3 => exact uC (zRr HO643.out).2.2); (case side4 => exact (zRr HO643.out).2.1); rintro e w15 ⟨v645, rfl, ho0, hb⟩; refine ⟨_, rfl, ?_⟩; have HO646 := zMk (zRl (zRw (zRw ho0 (zRt (by exact uR HO640.out))) (zRt (by exact uR HO643.out))) (zBs (by exact uT HB.out))); replace HO640 := zMk (zRe (by exact uR HO640.out) (zRz ho0) hb); replace HO643 := zMk (zRe (by exact uR HO643.out) (zRz ho0) hb); replace HB := zMk (zBt (by exact uT HB.out) hb); obtain ⟨Ao16, co16, eo16⟩ := zRs HO646.out; subst eo16)|((with_reducible refine gate_callee (f := 65) rfl ?_); refine goesL_ (some 15) rfl rfl Tryd.func65 (by kernel_rfl) rfl #[.slice Ao16 t644.length co16] rfl (by (try simp only [zMa, zMc, zMn]); first |  done|  rfl|  (simp only [zLd, zLt]; rfl)) ?_; (with_reducible refine (r1_limbs.calls k _ _ t644 t647 _ ?side1 ?side2 A9.out).mono ?_); (case side1 => exact uC (zRr HO646.out).2.2); (case side2 => exact (zRr HO646.out).2.1); rintro e w17 ⟨v648, rfl, ho0, hb⟩; refine ⟨_, rfl, ?_⟩; replace HO640 := zMk (zRb (by exact uR HO640.out) hb); replace HO643 := zMk (zRb (by exact uR HO643.out) hb); replace HO646 := zMk (zRb (by exact uR HO646.out) hb); have HO649 := zMk (zRl ho0 (zBs (by exact uT HB.out))); replace HB := zMk (zBt (by exact uT HB.out) hb)))
    go_ret2
    exact ⟨_, by first | rfl | (simp [errW_none, errW_some] <;> rfl) | (simp [*, errW_none, errW_some] <;> rfl), by exact uR HO649.out, by exact uT HB.out⟩


def filigreeref02_Add.f (k : Nat) (a0_0 : Bool) (l0_1 : List Int) (a1_0 : Bool) (l1_1 : List Int) : Option (Bool × List Int) := if (a0_0 == a1_0) = true then ((r1_Add.f k l0_1 l1_1).bind fun t653 => ((filigreeref02_make2.f k a0_0 t653).bind fun bt656 => (some (bt656.1, bt656.2)))) else ((r1_Cmp.f k l0_1 l1_1).bind fun t660 => (if t660 ≥ 0 then ((r1_Sub.f k l0_1 l1_1).bind fun bt661 => ((filigreeref02_make2.f k a0_0 bt661.1).bind fun bt665 => (some (bt665.1, bt665.2)))) else ((r1_Sub.f k l1_1 l0_1).bind fun bt669 => ((filigreeref02_make2.f k a1_0 bt669.1).bind fun bt673 => (some (bt673.1, bt673.2))))))
def filigreeref02_Add.T2 : Bool × List (List Nat × List Nat) := (true, [([], []), ([0], [0]), ([], []), ([2], [2]), ([], []), ([4], [4]), ([3, 5], [3, 5]), ([1, 6, 6], [1, 6]), ([7, 7, 0, 1, 2, 3, 4, 5, 6, 7], [7])])
def filigreeref02_Add.B2 : List Nat := [0, 1, 0, 4, 0, 16, 60, 127, 255]
theorem filigreeref02_Add.tab2 : rtab .any (opsOf Tryd.f18 2) = filigreeref02_Add.T2 := by kernel_rfl
theorem filigreeref02_Add.bits2 : waitsOk filigreeref02_Add.T2.2 filigreeref02_Add.B2 = true := by kernel_rfl
theorem filigreeref02_Add.calls (k : Nat) (a0_0 : Bool) (A0_1 : Option Addr) (c0_1 : Nat) (l0_1 : List Int) (a1_0 : Bool) (A1_1 : Option Addr) (c1_1 : Nat) (l1_1 : List Int) (r1 : Bool) (r2 : List Int) (w : World) (hr0_1 : Kd.C (Kd.int .u32) w A0_1 l0_1.length l0_1) (hc0_1 : l0_1.length ≤ c0_1) (hr1_1 : Kd.C (Kd.int .u32) w A1_1 l1_1.length l1_1) (hc1_1 : l1_1.length ≤ c1_1) (h : filigreeref02_Add.f k a0_0 l0_1 a1_0 l1_1 = some (r1, r2)) :
    Calls Tryd.prog 18 #[.agg #[.bool a0_0, .slice A0_1 l0_1.length c0_1], .agg #[.bool a1_0, .slice A1_1 l1_1.length c1_1]] w fun e w' => ∃ v1_ : Value, e = .returned (.agg #[.bool r1, v1_]) ∧ Kd.R (Kd.int .u32) 58 w' w.heap.size (fun _ => True) v1_ r2 ∧ Below w.heap.size w w' := by
  have hu24 := Tryd.underlying24
  have HR0_1 := zMk hr0_1
  have HC0_1 := zMk hc0_1
  clear hr0_1 hc0_1
  have HR1_1 := zMk hr1_1
  have HC1_1 := zMk hc1_1
  clear hr1_1 hc1_1
  have HB := zMk (Below.refl w.heap.size w)
  have H : (if (a0_0 == a1_0) = true then ((r1_Add.f k l0_1 l1_1).bind fun t653 => ((filigreeref02_make2.f k a0_0 t653).bind fun bt656 => (some (bt656.1, bt656.2)))) else ((r1_Cmp.f k l0_1 l1_1).bind fun t660 => (if t660 ≥ 0 then ((r1_Sub.f k l0_1 l1_1).bind fun bt661 => ((filigreeref02_make2.f k a0_0 bt661.1).bind fun bt665 => (some (bt665.1, bt665.2)))) else ((r1_Sub.f k l1_1 l0_1).bind fun bt669 => ((filigreeref02_make2.f k a1_0 bt669.1).bind fun bt673 => (some (bt673.1, bt673.2))))))) = some (r1, r2) := h
  clear h
  by_cases c3 : (a0_0 == a1_0) = true
  · rw [if_pos c3] at H
    have c3b0 : (a0_0 == a1_0) = true := c3
    (try (have c3b1 : decide (a0_0 = a1_0) = true := by simpa using c3))
    (try (have c3b2 : (a0_0 == a1_0) = true := by simpa using c3))
    clear c3
    replace H := bnd H
    obtain ⟨t653, A40, H⟩ := H
    have A4 := zMk A40
    clear A40
    replace H := bnd H
    obtain ⟨⟨t656, t657⟩, A50, H⟩ := H
    replace H : (some (t656, t657)) = some (r1, r2) := H
    have A5 := zMk A50
    clear A50
    simp only [Option.some.injEq, Prod.mk.injEq] at H
    obtain ⟨rfl, rfl⟩ := H
    go_enter Tryd.func18, Tryd.ntmps18
    try go_wp2_with (first | ((with_reducible refine gate_dst (N := 2) rfl ?_); refine box_event ?hg (N := 2) ?hd (cs := #[.bool a0_0, .slice A0_1 l0_1.length c0_1]) (t := 24) ?hr ?_; (case hd => rfl); (case hg => rfl); (case hr => first | (go_simp; done)|(go_simp; rfl)|(go_simp; rw [show ∀ x : Int, IntKind.u32.wrap (IntKind.u8.wrap x) = x % 256 from fun x => (by show (x % 256) % 4294967296 = x % 256; omega)])); intro gb650 hg w6 hbox hb; have BK650 := zMk (hbox); have GW650 := zMk ((by rw [hg]; exact (zBs (by exact uT HB.out)) : w.heap.size ≤ gb650)); have GE650 := zMk ((by rw [hg]; exact (zBs (by exact uT HB.out)) : w.heap.size ≤ gb650)); have IGE650 := ownGe GE650.out; replace HB := zMk (zBt (by exact uT HB.out) hb); clear hb hbox hg)|((with_reducible refine gate_dst (N := 3) rfl ?_); refine box_event ?hg (N := 3) ?hd (cs := #[.bool a1_0, .slice A1_1 l1_1.length c1_1]) (t := 24) ?hr ?_; (case hd => rfl); (case hg => rfl); (case hr => first | (go_simp; done)|(go_simp; rfl)|(go_simp; rw [show ∀ x : Int, IntKind.u32.wrap (IntKind.u8.wrap x) = x % 256 from fun x => (by show (x % 256) % 4294967296 = x % 256; omega)])); intro gb651 hg w7 hbox hb; have BK651 := zMk (hbox); have GW651 := zMk ((by rw [hg]; exact (zBs (by exact uT HB.out)) : w.heap.size ≤ gb651)); have GE651 := zMk ((by rw [hg]; exact (zBs (by exact uT HB.out)) : w.heap.size ≤ gb651)); have IGE651 := ownGe GE651.out; replace HB := zMk (zBt (by exact uT HB.out) hb); have NB650_651 := zMk ((by rw [hg]; exact Nat.ne_of_lt (blk_lt (g := gb650) (o := .cells #[.bool a0_0, .slice A0_1 l0_1.length c0_1] 24 (0, 0)) (by (with_reducible repeat (first |  refine zKn ?_ _|  refine zKd ?_|  refine zKa ?_ _)); exact BK650.out)) : gb650 ≠ gb651)); have NB651_650 := zMk ((by rw [hg]; exact Nat.ne_of_gt (blk_lt (g := gb650) (o := .cells #[.bool a0_0, .slice A0_1 l0_1.length c0_1] 24 (0, 0)) (by (with_reducible repeat (first |  refine zKn ?_ _|  refine zKd ?_|  refine zKa ?_ _)); exact BK650.out)) : gb651 ≠ gb650)); replace BK650 := zMk (zKb (g := gb650) (o := .cells #[.bool a0_0, .slice A0_1 l0_1.length c0_1] 24 (0, 0)) (by (with_reducible repeat (first |  refine zKn ?_ _|  refine zKd ?_|  refine zKa ?_ _)); exact BK650.out) hb); clear hb hbox hg)|((with_reducible refine gate_dst (N := 4) rfl ?_); refine box_event ?hg (N := 4) ?hd (cs := #[.bool false, .slice none 0 0]) (t := 24) ?hr ?_; (case hd => rfl); (case hg => rfl); (case hr => first | (go_simp; done)|(go_simp; rfl)|(go_simp; rw [show ∀ x : Int, IntKind.u32.wrap (IntKind.u8.wrap x) = x % 256 from fun x => (by show (x % 256) % 4294967296 = x % 256; omega)])); intro gb652 hg w8 hbox hb; have BK652 := zMk (hbox); have GW652 := zMk ((by rw [hg]; exact (zBs (by exact uT HB.out)) : w.heap.size ≤ gb652)); have GE652 := zMk ((by rw [hg]; exact (zBs (by exact uT HB.out)) : w.heap.size ≤ gb652)); have IGE652 := ownGe GE652.out; replace HB := zMk (zBt (by exact uT HB.out) hb); have NB650_652 := zMk ((by rw [hg]; exact Nat.ne_of_lt (blk_lt (g := gb650) (o := .cells #[.bool a0_0, .slice A0_1 l0_1.length c0_1] 24 (0, 0)) (by (with_reducible repeat (first |  refine zKn ?_ _|  refine zKd ?_|  refine zKa ?_ _)); exact BK650.out)) : gb650 ≠ gb652)); have NB652_650 := zMk ((by rw [hg]; exact Nat.ne_of_gt (blk_lt (g := gb650) (o := .cells #[.bool a0_0, .slice A0_1 l0_1.length c0_1] 24 (0, 0)) (by (with_reducible repeat (first |  refine zKn ?_ _|  refine zKd ?_|  refine zKa ?_ _)); exact BK650.out)) : gb652 ≠ gb650)); replace BK650 := zMk (zKb (g := gb650) (o := .cells #[.bool a0_0, .slice A0_1 l0_1.length c0_1] 24 (0, 0)) (by (with_reducible repeat (first |  refine zKn ?_ _|  refine zKd ?_|  refine zKa ?_ _)); exact BK650.out) hb); have NB651_652 := zMk ((by rw [hg]; exact Nat.ne_of_lt (blk_lt (g := gb651) (o := .cells #[.bool a1_0, .slice A1_1 l1_1.length c1_1] 24 (0, 0)) (by (with_reducible repeat (first |  refine zKn ?_ _|  refine zKd ?_|  refine zKa ?_ _)); exact BK651.out)) : gb651 ≠ gb652)); have NB652_651 := zMk ((by rw [hg]; exact Nat.ne_of_gt (blk_lt (g := gb651) (o := .cells #[.bool a1_0, .slice A1_1 l1_1.length c1_1] 24 (0, 0)) (by (with_reducible repeat (first |  refine zKn ?_ _|  refine zKd ?_|  refine zKa ?_ _)); exact BK651.out)) : gb652 ≠ gb651)); replace BK651 := zMk (zKb (g := gb651) (o := .cells #[.bool a1_0, .slice A1_1 l1_1.length c1_1] 24 (0, 0)) (by (with_reducible repeat (first |  refine zKn ?_ _|  refine zKd ?_|  refine zKa ?_ _)); exact BK651.out) hb); clear hb hbox hg; have hnb9 := NB650_651.out; have hnc9 := NB651_650.out; have hnb10 := NB650_652.out; have hnc10 := NB652_650.out; have hcz11_0 : w8.cell? ⟨gb650, 0, none⟩ = some (.bool a0_0) := (zKc BK650.out 0).trans rfl; have hcz11_1 : w8.cell? ⟨gb650, 1, none⟩ = some (.slice A0_1 l0_1.length c0_1) := (zKc BK650.out 1).trans rfl; have hfz11_0 := zKf BK650.out 0; have hfz11_1 := zKf BK650.out 1; have hnb12 := NB651_652.out; have hnc12 := NB652_651.out; have hcz13_0 : w8.cell? ⟨gb651, 0, none⟩ = some (.bool a1_0) := (zKc BK651.out 0).trans rfl; have hcz13_1 : w8.cell? ⟨gb651, 1, none⟩ = some (.slice A1_1 l1_1.length c1_1) := (zKc BK651.out 1).trans rfl; have hfz13_0 := zKf BK651.out 0; have hfz13_1 := zKf BK651.out 1))
    replace BK650 := zMk (zKd BK650.out)
    replace BK651 := zMk (zKd BK651.out)
    replace BK652 := zMk (zKd BK652.out)
    replace HB := zMk (zBd HB.out)
    refine start_ (n := 9) (S := fun w' => w'.cell? ⟨gb650, 0, none⟩ = some (.bool a0_0) ∧ w'.cell? ⟨gb650, 1, none⟩ = some (.slice A0_1 l0_1.length c0_1) ∧ w'.cell? ⟨gb651, 0, none⟩ = some (.bool a1_0) ∧ w'.cell? ⟨gb651, 1, none⟩ = some (.slice A1_1 l1_1.length c1_1)) (ds := []) #[false, false, false, false, false, false, false, false, false] (by kernel_rfl) rfl rfl ⟨(zKc BK650.out 0).trans rfl, (zKc BK650.out 1).trans rfl, (zKc BK651.out 0).trans rfl, (zKc BK651.out 1).trans rfl⟩ (fun hHeld => ?_); refine with_tabW filigreeref02_Add.tab2 filigreeref02_Add.bits2 (fun HT_ HW_ => ?_)
    generalize w8.drew = w14 at BK650 BK651 BK652 HB hHeld ⊢
    refine pure_ (i := 0) (N := some 14) (v := ?_) (a' := ?_) #[true, false, false, false, false, false, false, false, false] rfl rfl (any_of HT_.out (by kernel_rfl)) (fun _ _ _ h => h) (Or.inl ⟨by rfl, ?_⟩) ?_ ?_
    rotate_left
    · intro w'
      go_simp
      with_reducible rfl
    rotate_left
    · simp only [Act.put, zSa, zSb, zSc, i64_w, i32_w]
      rfl
    refine pure_ (i := 2) (N := some 16) (v := ?_) (a' := ?_) #[true, false, true, false, false, false, false, false, false] rfl rfl (any_of HT_.out (by kernel_rfl)) (fun _ _ _ h => h) (Or.inl ⟨by rfl, ?_⟩) ?_ ?_
    rotate_left
    · intro w'
      go_simp
      with_reducible rfl
    rotate_left
    · simp only [Act.put, zSa, zSb, zSc, i64_w, i32_w]
      rfl
    refine pure_ (i := 4) (N := some 18) (v := ?_) (a' := ?_) #[true, false, true, false, true, false, false, false, false] rfl rfl (any_of HT_.out (by kernel_rfl)) (fun _ _ _ h => h) (Or.inl ⟨by rfl, ?_⟩) ?_ ?_
    rotate_left
    · intro w'
      go_simp
      with_reducible rfl
    rotate_left
    · simp only [Act.put, zSa, zSb, zSc, i64_w, i32_w]
      rfl
    refine take_ (i := 1) (N := some 15) (v := ?_) (a' := ?_) #[true, true, true, false, true, false, false, false, false] rfl rfl (take_ofW HT_.out HW_.out (by kernel_rfl)) (fun _ _ _ h => h) (Or.inl ⟨by rfl, ?_⟩) hHeld ?_ ?_
    rotate_left
    · rintro w' ⟨s0, s1, s2, s3⟩
      go_simp
      with_reducible rfl
    rotate_left
    · simp only [Act.put, zSa, zSb, zSc, i64_w, i32_w]
      rfl
    refine take_ (i := 3) (N := some 17) (v := ?_) (a' := ?_) #[true, true, true, true, true, false, false, false, false] rfl rfl (take_ofW HT_.out HW_.out (by kernel_rfl)) (fun _ _ _ h => h) (Or.inl ⟨by rfl, ?_⟩) hHeld ?_ ?_
    rotate_left
    · rintro w' ⟨s0, s1, s2, s3⟩
      go_simp
      with_reducible rfl
    rotate_left
    · simp only [Act.put, zSa, zSb, zSc, i64_w, i32_w]
      rfl
    refine take_ (i := 5) (N := some 19) (v := ?_) (a' := ?_) #[true, true, true, true, true, true, false, false, false] rfl rfl (take_ofW HT_.out HW_.out (by kernel_rfl)) (fun _ _ _ h => h) (Or.inl ⟨by rfl, ?_⟩) hHeld ?_ ?_
    rotate_left
    · rintro w' ⟨s0, s1, s2, s3⟩
      go_simp
      with_reducible rfl
    rotate_left
    · simp only [Act.put, zSa, zSb, zSc, i64_w, i32_w]
      rfl
    refine one_ (i := 6) (N := some 20) #[true, true, true, true, true, true, true, false, false] rfl rfl (one_of HT_.out (by kernel_rfl)) (by decide) (fun K hK => ?_)
    refine goes_ Tryd.func41 (by kernel_rfl) rfl #[.slice A0_1 l0_1.length c0_1, .slice A1_1 l1_1.length c1_1] (by rfl) rfl rfl (by (try simp only [zMa, zMc, zMn]); first | done | rfl | (simp only [zLd, zLt]; rfl)) ?_
    with_reducible refine (r1_Add.calls k _ _ l0_1 _ _ l1_1 t653 _ ?side1 ?side2 ?side3 ?side4 A4.out).mono ?_
    (case side1 => repeat (first | exact (Kd.C_below HR0_1.out HB.out) | (with_reducible refine zCa ?_ _) | (with_reducible refine zCn ?_ _) | (with_reducible refine zCd ?_)))
    (case side2 => exact HC0_1.out)
    (case side3 => repeat (first | exact (Kd.C_below HR1_1.out HB.out) | (with_reducible refine zCa ?_ _) | (with_reducible refine zCn ?_ _) | (with_reducible refine zCd ?_)))
    (case side4 => exact HC1_1.out)
    rintro e w15 ⟨v654, rfl, ho0, hb⟩
    refine ⟨_, rfl, ?_⟩
    have HO655 := zMk (zRl ho0 (zBs (by exact uT HB.out)))
    replace BK650 := zMk (zKb (g := gb650) (o := .cells #[.bool a0_0, .slice A0_1 l0_1.length c0_1] 24 (0, 0)) (by (with_reducible repeat (first | refine zKn ?_ _ | refine zKd ?_ | refine zKa ?_ _)); exact BK650.out) hb)
    replace BK651 := zMk (zKb (g := gb651) (o := .cells #[.bool a1_0, .slice A1_1 l1_1.length c1_1] 24 (0, 0)) (by (with_reducible repeat (first | refine zKn ?_ _ | refine zKd ?_ | refine zKa ?_ _)); exact BK651.out) hb)
    replace BK652 := zMk (zKb (g := gb652) (o := .cells #[.bool false, .slice none 0 0] 24 (0, 0)) (by (with_reducible repeat (first | refine zKn ?_ _ | refine zKd ?_ | refine zKa ?_ _)); exact BK652.out) hb)
    replace HB := zMk (zBt (by exact uT HB.out) hb)
    obtain ⟨Ao16, co16, eo16⟩ := zRs HO655.out
    (first |  subst eo16|  (injection eo16 with f1_ f2_ f3_; have f4_ := f1_.symm; have f5_ := f3_.symm; clear f1_ f2_ f3_; subst f4_; subst f5_))
    refine hK.out _ _ ⟨(zKc BK650.out 0).trans rfl, (zKc BK650.out 1).trans rfl, (zKc BK651.out 0).trans rfl, (zKc BK651.out 1).trans rfl⟩ (fun hHeld => ?_)
    clear hK K
    refine norm_ (a' := ?_) ?_ ?_
    rotate_left
    · show Act.put _ (some 20) _ = _
      simp only [Act.put, zSa, zSb, zSc, i64_w, i32_w]
      rfl
    refine one_ (i := 7) (N := some 21) #[true, true, true, true, true, true, true, true, false] rfl rfl (one_of HT_.out (by kernel_rfl)) (by decide) (fun K hK => ?_)
    refine goes_ Tryd.func38 (by kernel_rfl) rfl #[.bool a0_0, .slice Ao16 t653.length co16] (by rfl) rfl rfl (by (try simp only [zMa, zMc, zMn]); first | done | rfl | (simp only [zLd, zLt]; rfl)) ?_
    with_reducible refine (filigreeref02_make2.calls k a0_0 _ _ t653 t656 t657 _ ?side1 ?side2 A5.out).mono ?_
    (case side1 => exact uC (zRr HO655.out).2.2)
    (case side2 => exact (zRr HO655.out).2.1)
    rintro e w17 ⟨v658, rfl, ho0, hb⟩
    refine ⟨_, rfl, ?_⟩
    have HO659 := zMk (zRl (zRw ho0 (zRt (by exact uR HO655.out))) (zBs (by exact uT HB.out)))
    replace HO655 := zMk (zRe (by exact uR HO655.out) (zRz ho0) hb)
    replace BK650 := zMk (zKb (g := gb650) (o := .cells #[.bool a0_0, .slice A0_1 l0_1.length c0_1] 24 (0, 0)) (by (with_reducible repeat (first | refine zKn ?_ _ | refine zKd ?_ | refine zKa ?_ _)); exact BK650.out) hb)
    replace BK651 := zMk (zKb (g := gb651) (o := .cells #[.bool a1_0, .slice A1_1 l1_1.length c1_1] 24 (0, 0)) (by (with_reducible repeat (first | refine zKn ?_ _ | refine zKd ?_ | refine zKa ?_ _)); exact BK651.out) hb)
    replace BK652 := zMk (zKb (g := gb652) (o := .cells #[.bool false, .slice none 0 0] 24 (0, 0)) (by (with_reducible repeat (first | refine zKn ?_ _ | refine zKd ?_ | refine zKa ?_ _)); exact BK652.out) hb)
    replace HB := zMk (zBt (by exact uT HB.out) hb)
    obtain ⟨Ao19, co19, eo19⟩ := zRs HO659.out
    (first |  subst eo19|  (injection eo19 with f1_ f2_ f3_; have f4_ := f1_.symm; have f5_ := f3_.symm; clear f1_ f2_ f3_; subst f4_; subst f5_))
    refine hK.out _ _ ⟨(zKc BK650.out 0).trans rfl, (zKc BK650.out 1).trans rfl, (zKc BK651.out 0).trans rfl, (zKc BK651.out 1).trans rfl⟩ (fun hHeld => ?_)
    clear hK K
    refine norm_ (a' := ?_) ?_ ?_
    rotate_left
    · show Act.put _ (some 21) _ = _
      simp only [Act.put, zSa, zSb, zSc, i64_w, i32_w]
      rfl
    refine one_ (i := 8) (N := none) #[true, true, true, true, true, true, true, true, true] rfl rfl (one_of HT_.out (by kernel_rfl)) (by decide) (fun K hK => ?_)
    have hs18 : w17.cell? ⟨gb652, 0, none⟩ = some (.bool false) := (zKc BK652.out 0).trans rfl
    have hfs18 := zKf BK652.out 0
    have hns18_0 := NB650_652.out
    have hns18_1 := NB651_652.out
    have hms18_0 := NB652_650.out
    have hms18_1 := NB652_651.out
    have hs20 : w17.cell? ⟨gb652, 1, none⟩ = some (.slice none 0 0) := (zKc BK652.out 1).trans rfl
    have hfs20 := zKf BK652.out 1
    have hns20_0 := NB650_652.out
    have hns20_1 := NB651_652.out
    have hms20_0 := NB652_650.out
    have hms20_1 := NB652_651.out
    refine skip_ (w1 := ?_) (by rfl) rfl ?_ ?_
    rotate_left
    · go_simp
      rfl
    refine hK.out _ _ ⟨((cell_far (p := ⟨gb652, _, none⟩) NB650_652.out _).trans (((cell_far (p := ⟨gb652, _, none⟩) NB650_652.out _).trans (hHeld.1)))), ((cell_far (p := ⟨gb652, _, none⟩) NB650_652.out _).trans (((cell_far (p := ⟨gb652, _, none⟩) NB650_652.out _).trans (hHeld.2.1)))), ((cell_far (p := ⟨gb652, _, none⟩) NB651_652.out _).trans (((cell_far (p := ⟨gb652, _, none⟩) NB651_652.out _).trans (hHeld.2.2.1)))), ((cell_far (p := ⟨gb652, _, none⟩) NB651_652.out _).trans (((cell_far (p := ⟨gb652, _, none⟩) NB651_652.out _).trans (hHeld.2.2.2))))⟩ (fun hHeld => ?_)
    clear hK K
    refine done_ (done_of HT_.out (by kernel_rfl)) ?_
    try go_wp2
    refine bodyPost_ret (results_cell_row rfl _ _ gb652 24 #[.bool t656, .slice Ao19 t657.length co19] (0, 0) _ rfl (by (with_reducible repeat (first | refine zKn ?_ _ | refine zKd ?_ | refine zKa ?_ _)); refine blk_put (cs := #[.bool t656, .slice none 0 0]) ?_ 1 _ rfl; (with_reducible repeat (first | refine zKn ?_ _ | refine zKd ?_ | refine zKa ?_ _)); refine blk_put (cs := #[.bool false, .slice none 0 0]) ?_ 0 _ rfl; (with_reducible repeat (first | refine zKn ?_ _ | refine zKd ?_ | refine zKa ?_ _)); exact BK652.out) Tryd.underlying24 rfl (by kernel_rfl)) rfl ?_
    exact ⟨_, by first | rfl | (simp [errW_none, errW_some] <;> rfl) | (simp [*, errW_none, errW_some] <;> rfl), by (with_reducible repeat (first | apply zRa | apply zRn | apply zRd)); exact zRm (Kd.R_far (p := ⟨gb652, 1, none⟩) (Kd.R_far (p := ⟨gb652, 0, none⟩) (Kd.R_types HO659.out BK652.out (by decide)) (fun _ hk => hk.2) (.bool t656)) (fun _ hk => hk.2) (.slice Ao19 t657.length co19)) (fun _ hk => trivial), by exact uT HB.out⟩
  · rw [if_neg c3] at H
    have c3b0 : (a0_0 == a1_0) = false := by simpa using c3
    (try (have c3b1 : decide (a0_0 = a1_0) = false := by simpa using c3))
    (try (have c3b2 : (a0_0 == a1_0) = false := by simpa using c3))
    (try (have c3b3 : ¬ (a0_0 = a1_0) := by simpa using c3))
    clear c3
    replace H := bnd H
    obtain ⟨t660, A210, H⟩ := H
    have A21 := zMk A210
    clear A210
    by_cases c22 : t660 ≥ 0
    · rw [if_pos c22] at H
      have c22b0 : decide (0 ≤ t660) = true := decide_eq_true c22
      clear c22
      replace H := bnd H
      obtain ⟨⟨t661, t662⟩, A230, H⟩ := H
      replace H : ((filigreeref02_make2.f k a0_0 t661).bind fun bt665 => (some (bt665.1, bt665.2))) = some (r1, r2) := H
      have A23 := zMk A230
      clear A230
      replace H := bnd H
      obtain ⟨⟨t665, t666⟩, A240, H⟩ := H
      replace H : (some (t665, t666)) = some (r1, r2) := H
      have A24 := zMk A240
      clear A240
      simp only [Option.some.injEq, Prod.mk.injEq] at H
      obtain ⟨rfl, rfl⟩ := H
      go_enter Tryd.func18, Tryd.ntmps18
      go_wp2_with (first | ((with_reducible refine gate_dst (N := 2) rfl ?_); refine box_event ?hg (N := 2) ?hd (cs := #[.bool a0_0, .slice A0_1 l0_1.length c0_1]) (t := 24) ?hr ?_; (case hd => rfl); (case hg => rfl); (case hr => first | (go_simp; done)|(go_simp; rfl)|(go_simp; rw [show ∀ x : Int, IntKind.u32.wrap (IntKind.u8.wrap x) = x % 256 from fun x => (by show (x % 256) % 4294967296 = x % 256; omega)])); intro gb650 hg w25 hbox hb; have BK650 := zMk (hbox); have GW650 := zMk ((by rw [hg]; exact (zBs (by exact uT HB.out)) : w.heap.size ≤ gb650)); have GE650 := zMk ((by rw [hg]; exact (zBs (by exact uT HB.out)) : w.heap.size ≤ gb650)); have IGE650 := ownGe GE650.out; replace HB := zMk (zBt (by exact uT HB.out) hb); clear hb hbox hg)|((with_reducible refine gate_dst (N := 3) rfl ?_); refine box_event ?hg (N := 3) ?hd (cs := #[.bool a1_0, .slice A1_1 l1_1.length c1_1]) (t := 24) ?hr ?_; (case hd => rfl); (case hg => rfl); (case hr => first | (go_simp; done)|(go_simp; rfl)|(go_simp; rw [show ∀ x : Int, IntKind.u32.wrap (IntKind.u8.wrap x) = x % 256 from fun x => (by show (x % 256) % 4294967296 = x % 256; omega)])); intro gb651 hg w26 hbox hb; have BK651 := zMk (hbox); have GW651 := zMk ((by rw [hg]; exact (zBs (by exact uT HB.out)) : w.heap.size ≤ gb651)); have GE651 := zMk ((by rw [hg]; exact (zBs (by exact uT HB.out)) : w.heap.size ≤ gb651)); have IGE651 := ownGe GE651.out; replace HB := zMk (zBt (by exact uT HB.out) hb); have NB650_651 := zMk ((by rw [hg]; exact Nat.ne_of_lt (blk_lt (g := gb650) (o := .cells #[.bool a0_0, .slice A0_1 l0_1.length c0_1] 24 (0, 0)) (by (with_reducible repeat (first |  refine zKn ?_ _|  refine zKd ?_|  refine zKa ?_ _)); exact BK650.out)) : gb650 ≠ gb651)); have NB651_650 := zMk ((by rw [hg]; exact Nat.ne_of_gt (blk_lt (g := gb650) (o := .cells #[.bool a0_0, .slice A0_1 l0_1.length c0_1] 24 (0, 0)) (by (with_reducible repeat (first |  refine zKn ?_ _|  refine zKd ?_|  refine zKa ?_ _)); exact BK650.out)) : gb651 ≠ gb650)); replace BK650 := zMk (zKb (g := gb650) (o := .cells #[.bool a0_0, .slice A0_1 l0_1.length c0_1] 24 (0, 0)) (by (with_reducible repeat (first |  refine zKn ?_ _|  refine zKd ?_|  refine zKa ?_ _)); exact BK650.out) hb); clear hb hbox hg)|((with_reducible refine gate_dst (N := 4) rfl ?_); refine box_event ?hg (N := 4) ?hd (cs := #[.bool false, .slice none 0 0]) (t := 24) ?hr ?_; (case hd => rfl); (case hg => rfl); (case hr => first | (go_simp; done)|(go_simp; rfl)|(go_simp; rw [show ∀ x : Int, IntKind.u32.wrap (IntKind.u8.wrap x) = x % 256 from fun x => (by show (x % 256) % 4294967296 = x % 256; omega)])); intro gb652 hg w27 hbox hb; have BK652 := zMk (hbox); have GW652 := zMk ((by rw [hg]; exact (zBs (by exact uT HB.out)) : w.heap.size ≤ gb652)); have GE652 := zMk ((by rw [hg]; exact (zBs (by exact uT HB.out)) : w.heap.size ≤ gb652)); have IGE652 := ownGe GE652.out; replace HB := zMk (zBt (by exact uT HB.out) hb); have NB650_652 := zMk ((by rw [hg]; exact Nat.ne_of_lt (blk_lt (g := gb650) (o := .cells #[.bool a0_0, .slice A0_1 l0_1.length c0_1] 24 (0, 0)) (by (with_reducible repeat (first |  refine zKn ?_ _|  refine zKd ?_|  refine zKa ?_ _)); exact BK650.out)) : gb650 ≠ gb652)); have NB652_650 := zMk ((by rw [hg]; exact Nat.ne_of_gt (blk_lt (g := gb650) (o := .cells #[.bool a0_0, .slice A0_1 l0_1.length c0_1] 24 (0, 0)) (by (with_reducible repeat (first |  refine zKn ?_ _|  refine zKd ?_|  refine zKa ?_ _)); exact BK650.out)) : gb652 ≠ gb650)); replace BK650 := zMk (zKb (g := gb650) (o := .cells #[.bool a0_0, .slice A0_1 l0_1.length c0_1] 24 (0, 0)) (by (with_reducible repeat (first |  refine zKn ?_ _|  refine zKd ?_|  refine zKa ?_ _)); exact BK650.out) hb); have NB651_652 := zMk ((by rw [hg]; exact Nat.ne_of_lt (blk_lt (g := gb651) (o := .cells #[.bool a1_0, .slice A1_1 l1_1.length c1_1] 24 (0, 0)) (by (with_reducible repeat (first |  refine zKn ?_ _|  refine zKd ?_|  refine zKa ?_ _)); exact BK651.out)) : gb651 ≠ gb652)); have NB652_651 := zMk ((by rw [hg]; exact Nat.ne_of_gt (blk_lt (g := gb651) (o := .cells #[.bool a1_0, .slice A1_1 l1_1.length c1_1] 24 (0, 0)) (by (with_reducible repeat (first |  refine zKn ?_ _|  refine zKd ?_|  refine zKa ?_ _)); exact BK651.out)) : gb652 ≠ gb651)); replace BK651 := zMk (zKb (g := gb651) (o := .cells #[.bool a1_0, .slice A1_1 l1_1.length c1_1] 24 (0, 0)) (by (with_reducible repeat (first |  refine zKn ?_ _|  refine zKd ?_|  refine zKa ?_ _)); exact BK651.out) hb); clear hb hbox hg; have hnb28 := NB650_651.out; have hnc28 := NB651_650.out; have hnb29 := NB650_652.out; have hnc29 := NB652_650.out; have hcz30_0 : w27.cell? ⟨gb650, 0, none⟩ = some (.bool a0_0) := (zKc BK650.out 0).trans rfl; have hcz30_1 : w27.cell? ⟨gb650, 1, none⟩ = some (.slice A0_1 l0_1.length c0_1) := (zKc BK650.out 1).trans rfl; have hfz30_0 := zKf BK650.out 0; have hfz30_1 := zKf BK650.out 1; have hnb31 := NB651_652.out; have hnc31 := NB652_651.out; have hcz32_0 : w27.cell? ⟨gb651, 0, none⟩ = some (.bool a1_0) := (zKc BK651.out 0).trans rfl; have hcz32_1 : w27.cell? ⟨gb651, 1, none⟩ = some (.slice A1_1 l1_1.length c1_1) := (zKc BK651.out 1).trans rfl; have hfz32_0 := zKf BK651.out 0; have hfz32_1 := zKf BK651.out 1)|((with_reducible refine gate_callee (f := 42) rfl ?_); refine goesL_ (some 26) rfl rfl Tryd.func42 (by kernel_rfl) rfl #[.slice A0_1 l0_1.length c0_1, .slice A1_1 l1_1.length c1_1] rfl (by (try simp only [zMa, zMc, zMn]); first |  done|  rfl|  (simp only [zLd, zLt]; rfl)) ?_; (with_reducible refine (r1_Cmp.calls k _ _ l0_1 _ _ l1_1 t660 _ ?side1 ?side2 ?side3 ?side4 A21.out).mono ?_); (case side1 => repeat (first |  exact (Kd.C_below HR0_1.out HB.out)|(with_reducible refine zCa ?_ _)|(with_reducible refine zCn ?_ _)|(with_reducible refine zCd ?_))); (case side2 => exact HC0_1.out); (case side3 => repeat (first |  exact (Kd.C_below HR1_1.out HB.out)|(with_reducible refine zCa ?_ _)|(with_reducible refine zCn ?_ _)|(with_reducible refine zCd ?_))); (case side4 => exact HC1_1.out); rintro e w33 ⟨rfl, hb⟩; refine ⟨_, rfl, ?_⟩; replace BK650 := zMk (zKb (g := gb650) (o := .cells #[.bool a0_0, .slice A0_1 l0_1.length c0_1] 24 (0, 0)) (by (with_reducible repeat (first |  refine zKn ?_ _|  refine zKd ?_|  refine zKa ?_ _)); exact BK650.out) hb); replace BK651 := zMk (zKb (g := gb651) (o := .cells #[.bool a1_0, .slice A1_1 l1_1.length c1_1] 24 (0, 0)) (by (with_reducible repeat (first |  refine zKn ?_ _|  refine zKd ?_|  refine zKa ?_ _)); exact BK651.out) hb); replace BK652 := zMk (zKb (g := gb652) (o := .cells #[.bool false, .slice none 0 0] 24 (0, 0)) (by (with_reducible repeat (first |  refine zKn ?_ _|  refine zKd ?_|  refine zKa ?_ _)); exact BK652.out) hb); replace HB := zMk (zBt (by exact uT HB.out) hb); have hcz34_0 : w33.cell? ⟨gb650, 0, none⟩ = some (.bool a0_0) := (zKc BK650.out 0).trans rfl; have hcz34_1 : w33.cell? ⟨gb650, 1, none⟩ = some (.slice A0_1 l0_1.length c0_1) := (zKc BK650.out 1).trans rfl; have hfz34_0 := zKf BK650.out 0; have hfz34_1 := zKf BK650.out 1; have hcz35_0 : w33.cell? ⟨gb651, 0, none⟩ = some (.bool a1_0) := (zKc BK651.out 0).trans rfl; have hcz35_1 : w33.cell? ⟨gb651, 1, none⟩ = some (.slice A1_1 l1_1.length c1_1) := (zKc BK651.out 1).trans rfl; have hfz35_0 := zKf BK651.out 0; have hfz35_1 := zKf BK651.out 1)|((with_reducible refine gate_callee (f := 43) rfl ?_); refine goesL_ (some 33) rfl rfl Tryd.func43 (by kernel_rfl) rfl #[.slice A0_1 l0_1.length c0_1, .slice A1_1 l1_1.length c1_1] rfl (by (try simp only [zMa, zMc, zMn]); first |  done|  rfl|  (simp only [zLd, zLt]; rfl)) ?_; (with_reducible refine (r1_Sub.calls k _ _ l0_1 _ _ l1_1 t661 t662 _ ?side1 ?side2 ?side3 ?side4 A23.out).mono ?_); (case side1 => repeat (first |  exact (Kd.C_below HR0_1.out HB.out)|(with_reducible refine zCa ?_ _)|(with_reducible refine zCn ?_ _)|(with_reducible refine zCd ?_))); (case side2 => exact HC0_1.out); (case side3 => repeat (first |  exact (Kd.C_below HR1_1.out HB.out)|(with_reducible refine zCa ?_ _)|(with_reducible refine zCn ?_ _)|(with_reducible refine zCd ?_))); (case side4 => exact HC1_1.out); rintro e w36 ⟨v663, rfl, ho0, hb⟩; refine ⟨_, rfl, ?_⟩; have HO664 := zMk (zRl ho0 (zBs (by exact uT HB.out))); replace BK650 := zMk (zKb (g := gb650) (o := .cells #[.bool a0_0, .slice A0_1 l0_1.length c0_1] 24 (0, 0)) (by (with_reducible repeat (first |  refine zKn ?_ _|  refine zKd ?_|  refine zKa ?_ _)); exact BK650.out) hb); replace BK651 := zMk (zKb (g := gb651) (o := .cells #[.bool a1_0, .slice A1_1 l1_1.length c1_1] 24 (0, 0)) (by (with_reducible repeat (first |  refine zKn ?_ _|  refine zKd ?_|  refine zKa ?_ _)); exact BK651.out) hb); replace BK652 := zMk (zKb (g := gb652) (o := .cells #[.bool false, .slice none 0 0] 24 (0, 0)) (by (with_reducible repeat (first |  refine zKn ?_ _|  refine zKd ?_|  refine zKa ?_ _)); exact BK652.out) hb); replace HB := zMk (zBt (by exact uT HB.out) hb); have hcz37_0 : w36.cell? ⟨gb650, 0, none⟩ = some (.bool a0_0) := (zKc BK650.out 0).trans rfl; have hcz37_1 : w36.cell? ⟨gb650, 1, none⟩ = some (.slice A0_1 l0_1.length c0_1) := (zKc BK650.out 1).trans rfl; have hfz37_0 := zKf BK650.out 0; have hfz37_1 := zKf BK650.out 1; obtain ⟨Ao38, co38, eo38⟩ := zRs HO664.out; subst eo38)|((with_reducible refine gate_callee (f := 38) rfl ?_); refine goesL_ (some 39) rfl rfl Tryd.func38 (by kernel_rfl) rfl #[.bool a0_0, .slice Ao38 t661.length co38] rfl (by (try simp only [zMa, zMc, zMn]); first |  done|  rfl|  (simp only [zLd, zLt]; rfl)) ?_; (with_reducible refine (filigreeref02_make2.calls k a0_0 _ _ t661 t665 t666 _ ?side1 ?side2 A24.out).mono ?_); (case side1 => exact uC (zRr HO664.out).2.2); (case side2 => exact (zRr HO664.out).2.1); rintro e w39 ⟨v667, rfl, ho0, hb⟩; refine ⟨_, rfl, ?_⟩; have HO668 := zMk (zRl (zRw ho0 (zRt (by exact uR HO664.out))) (zBs (by exact uT HB.out))); replace HO664 := zMk (zRe (by exact uR HO664.out) (zRz ho0) hb); replace BK650 := zMk (zKb (g := gb650) (o := .cells #[.bool a0_0, .slice A0_1 l0_1.length c0_1] 24 (0, 0)) (by (with_reducible repeat (first |  refine zKn ?_ _|  refine zKd ?_|  refine zKa ?_ _)); exact BK650.out) hb); replace BK651 := zMk (zKb (g := gb651) (o := .cells #[.bool a1_0, .slice A1_1 l1_1.length c1_1] 24 (0, 0)) (by (with_reducible repeat (first |  refine zKn ?_ _|  refine zKd ?_|  refine zKa ?_ _)); exact BK651.out) hb); replace BK652 := zMk (zKb (g := gb652) (o := .cells #[.bool false, .slice none 0 0] 24 (0, 0)) (by (with_reducible repeat (first |  refine zKn ?_ _|  refine zKd ?_|  refine zKa ?_ _)); exact BK652.out) hb); replace HB := zMk (zBt (by exact uT HB.out) hb); have hcz40_0 : w39.cell? ⟨gb652, 0, none⟩ = some (.bool false) := (zKc BK652.out 0).trans rfl; have hcz40_1 : w39.cell? ⟨gb652, 1, none⟩ = some (.slice none 0 0) := (zKc BK652.out 1).trans rfl; have hfz40_0 := zKf BK652.out 0; have hfz40_1 := zKf BK652.out 1; obtain ⟨Ao41, co41, eo41⟩ := zRs HO668.out; subst eo41))
      refine bodyPost_ret (results_cell_row rfl _ _ gb652 24 #[.bool t665, .slice Ao41 t666.length co41] (0, 0) _ rfl (by (with_reducible repeat (first | refine zKn ?_ _ | refine zKd ?_ | refine zKa ?_ _)); refine blk_put (cs := #[.bool t665, .slice none 0 0]) ?_ 1 _ rfl; (with_reducible repeat (first | refine zKn ?_ _ | refine zKd ?_ | refine zKa ?_ _)); refine blk_put (cs := #[.bool false, .slice none 0 0]) ?_ 0 _ rfl; (with_reducible repeat (first | refine zKn ?_ _ | refine zKd ?_ | refine zKa ?_ _)); exact BK652.out) Tryd.underlying24 rfl (by kernel_rfl)) rfl ?_
      exact ⟨_, by first | rfl | (simp [errW_none, errW_some] <;> rfl) | (simp [*, errW_none, errW_some] <;> rfl), by (with_reducible repeat (first | apply zRa | apply zRn | apply zRd)); exact zRm (Kd.R_far (p := ⟨gb652, 1, none⟩) (Kd.R_far (p := ⟨gb652, 0, none⟩) (Kd.R_types HO668.out BK652.out (by decide)) (fun _ hk => hk.2) (.bool t665)) (fun _ hk => hk.2) (.slice Ao41 t666.length co41)) (fun _ hk => trivial), by exact uT HB.out⟩
    · rw [if_neg c22] at H
      have c22b0 : decide (0 ≤ t660) = false := decide_eq_false c22
      clear c22
      replace H := bnd H
      obtain ⟨⟨t669, t670⟩, A420, H⟩ := H
      replace H : ((filigreeref02_make2.f k a1_0 t669).bind fun bt673 => (some (bt673.1, bt673.2))) = some (r1, r2) := H
      have A42 := zMk A420
      clear A420
      replace H := bnd H
      obtain ⟨⟨t673, t674⟩, A430, H⟩ := H
      replace H : (some (t673, t674)) = some (r1, r2) := H
      have A43 := zMk A430
      clear A430
      simp only [Option.some.injEq, Prod.mk.injEq] at H
      obtain ⟨rfl, rfl⟩ := H
      go_enter Tryd.func18, Tryd.ntmps18
      go_wp2_with (first | ((with_reducible refine gate_dst (N := 2) rfl ?_); refine box_event ?hg (N := 2) ?hd (cs := #[.bool a0_0, .slice A0_1 l0_1.length c0_1]) (t := 24) ?hr ?_; (case hd => rfl); (case hg => rfl); (case hr => first | (go_simp; done)|(go_simp; rfl)|(go_simp; rw [show ∀ x : Int, IntKind.u32.wrap (IntKind.u8.wrap x) = x % 256 from fun x => (by show (x % 256) % 4294967296 = x % 256; omega)])); intro gb650 hg w44 hbox hb; have BK650 := zMk (hbox); have GW650 := zMk ((by rw [hg]; exact (zBs (by exact uT HB.out)) : w.heap.size ≤ gb650)); have GE650 := zMk ((by rw [hg]; exact (zBs (by exact uT HB.out)) : w.heap.size ≤ gb650)); have IGE650 := ownGe GE650.out; replace HB := zMk (zBt (by exact uT HB.out) hb); clear hb hbox hg)|((with_reducible refine gate_dst (N := 3) rfl ?_); refine box_event ?hg (N := 3) ?hd (cs := #[.bool a1_0, .slice A1_1 l1_1.length c1_1]) (t := 24) ?hr ?_; (case hd => rfl); (case hg => rfl); (case hr => first | (go_simp; done)|(go_simp; rfl)|(go_simp; rw [show ∀ x : Int, IntKind.u32.wrap (IntKind.u8.wrap x) = x % 256 from fun x => (by show (x % 256) % 4294967296 = x % 256; omega)])); intro gb651 hg w45 hbox hb; have BK651 := zMk (hbox); have GW651 := zMk ((by rw [hg]; exact (zBs (by exact uT HB.out)) : w.heap.size ≤ gb651)); have GE651 := zMk ((by rw [hg]; exact (zBs (by exact uT HB.out)) : w.heap.size ≤ gb651)); have IGE651 := ownGe GE651.out; replace HB := zMk (zBt (by exact uT HB.out) hb); have NB650_651 := zMk ((by rw [hg]; exact Nat.ne_of_lt (blk_lt (g := gb650) (o := .cells #[.bool a0_0, .slice A0_1 l0_1.length c0_1] 24 (0, 0)) (by (with_reducible repeat (first |  refine zKn ?_ _|  refine zKd ?_|  refine zKa ?_ _)); exact BK650.out)) : gb650 ≠ gb651)); have NB651_650 := zMk ((by rw [hg]; exact Nat.ne_of_gt (blk_lt (g := gb650) (o := .cells #[.bool a0_0, .slice A0_1 l0_1.length c0_1] 24 (0, 0)) (by (with_reducible repeat (first |  refine zKn ?_ _|  refine zKd ?_|  refine zKa ?_ _)); exact BK650.out)) : gb651 ≠ gb650)); replace BK650 := zMk (zKb (g := gb650) (o := .cells #[.bool a0_0, .slice A0_1 l0_1.length c0_1] 24 (0, 0)) (by (with_reducible repeat (first |  refine zKn ?_ _|  refine zKd ?_|  refine zKa ?_ _)); exact BK650.out) hb); clear hb hbox hg)|((with_reducible refine gate_dst (N := 4) rfl ?_); refine box_event ?hg (N := 4) ?hd (cs := #[.bool false, .slice none 0 0]) (t := 24) ?hr ?_; (case hd => rfl); (case hg => rfl); (case hr => first | (go_simp; done)|(go_simp; rfl)|(go_simp; rw [show ∀ x : Int, IntKind.u32.wrap (IntKind.u8.wrap x) = x % 256 from fun x => (by show (x % 256) % 4294967296 = x % 256; omega)])); intro gb652 hg w46 hbox hb; have BK652 := zMk (hbox); have GW652 := zMk ((by rw [hg]; exact (zBs (by exact uT HB.out)) : w.heap.size ≤ gb652)); have GE652 := zMk ((by rw [hg]; exact (zBs (by exact uT HB.out)) : w.heap.size ≤ gb652)); have IGE652 := ownGe GE652.out; replace HB := zMk (zBt (by exact uT HB.out) hb); have NB650_652 := zMk ((by rw [hg]; exact Nat.ne_of_lt (blk_lt (g := gb650) (o := .cells #[.bool a0_0, .slice A0_1 l0_1.length c0_1] 24 (0, 0)) (by (with_reducible repeat (first |  refine zKn ?_ _|  refine zKd ?_|  refine zKa ?_ _)); exact BK650.out)) : gb650 ≠ gb652)); have NB652_650 := zMk ((by rw [hg]; exact Nat.ne_of_gt (blk_lt (g := gb650) (o := .cells #[.bool a0_0, .slice A0_1 l0_1.length c0_1] 24 (0, 0)) (by (with_reducible repeat (first |  refine zKn ?_ _|  refine zKd ?_|  refine zKa ?_ _)); exact BK650.out)) : gb652 ≠ gb650)); replace BK650 := zMk (zKb (g := gb650) (o := .cells #[.bool a0_0, .slice A0_1 l0_1.length c0_1] 24 (0, 0)) (by (with_reducible repeat (first |  refine zKn ?_ _|  refine zKd ?_|  refine zKa ?_ _)); exact BK650.out) hb); have NB651_652 := zMk ((by rw [hg]; exact Nat.ne_of_lt (blk_lt (g := gb651) (o := .cells #[.bool a1_0, .slice A1_1 l1_1.length c1_1] 24 (0, 0)) (by (with_reducible repeat (first |  refine zKn ?_ _|  refine zKd ?_|  refine zKa ?_ _)); exact BK651.out)) : gb651 ≠ gb652)); have NB652_651 := zMk ((by rw [hg]; exact Nat.ne_of_gt (blk_lt (g := gb651) (o := .cells #[.bool a1_0, .slice A1_1 l1_1.length c1_1] 24 (0, 0)) (by (with_reducible repeat (first |  refine zKn ?_ _|  refine zKd ?_|  refine zKa ?_ _)); exact BK651.out)) : gb652 ≠ gb651)); replace BK651 := zMk (zKb (g := gb651) (o := .cells #[.bool a1_0, .slice A1_1 l1_1.length c1_1] 24 (0, 0)) (by (with_reducible repeat (first |  refine zKn ?_ _|  refine zKd ?_|  refine zKa ?_ _)); exact BK651.out) hb); clear hb hbox hg; have hnb47 := NB650_651.out; have hnc47 := NB651_650.out; have hnb48 := NB650_652.out; have hnc48 := NB652_650.out; have hcz49_0 : w46.cell? ⟨gb650, 0, none⟩ = some (.bool a0_0) := (zKc BK650.out 0).trans rfl; have hcz49_1 : w46.cell? ⟨gb650, 1, none⟩ = some (.slice A0_1 l0_1.length c0_1) := (zKc BK650.out 1).trans rfl; have hfz49_0 := zKf BK650.out 0; have hfz49_1 := zKf BK650.out 1; have hnb50 := NB651_652.out; have hnc50 := NB652_651.out; have hcz51_0 : w46.cell? ⟨gb651, 0, none⟩ = some (.bool a1_0) := (zKc BK651.out 0).trans rfl; have hcz51_1 : w46.cell? ⟨gb651, 1, none⟩ = some (.slice A1_1 l1_1.length c1_1) := (zKc BK651.out 1).trans rfl; have hfz51_0 := zKf BK651.out 0; have hfz51_1 := zKf BK651.out 1)|((with_reducible refine gate_callee (f := 42) rfl ?_); refine goesL_ (some 26) rfl rfl Tryd.func42 (by kernel_rfl) rfl #[.slice A0_1 l0_1.length c0_1, .slice A1_1 l1_1.length c1_1] rfl (by (try simp only [zMa, zMc, zMn]); first |  done|  rfl|  (simp only [zLd, zLt]; rfl)) ?_; (with_reducible refine (r1_Cmp.calls k _ _ l0_1 _ _ l1_1 t660 _ ?side1 ?side2 ?side3 ?side4 A21.out).mono ?_); (case side1 => repeat (first |  exact (Kd.C_below HR0_1.out HB.out)|(with_reducible refine zCa ?_ _)|(with_reducible refine zCn ?_ _)|(with_reducible refine zCd ?_))); (case side2 => exact HC0_1.out); (case side3 => repeat (first |  exact (Kd.C_below HR1_1.out HB.out)|(with_reducible refine zCa ?_ _)|(with_reducible refine zCn ?_ _)|(with_reducible refine zCd ?_))); (case side4 => exact HC1_1.out); rintro e w52 ⟨rfl, hb⟩; refine ⟨_, rfl, ?_⟩; replace BK650 := zMk (zKb (g := gb650) (o := .cells #[.bool a0_0, .slice A0_1 l0_1.length c0_1] 24 (0, 0)) (by (with_reducible repeat (first |  refine zKn ?_ _|  refine zKd ?_|  refine zKa ?_ _)); exact BK650.out) hb); replace BK651 := zMk (zKb (g := gb651) (o := .cells #[.bool a1_0, .slice A1_1 l1_1.length c1_1] 24 (0, 0)) (by (with_reducible repeat (first |  refine zKn ?_ _|  refine zKd ?_|  refine zKa ?_ _)); exact BK651.out) hb); replace BK652 := zMk (zKb (g := gb652) (o := .cells #[.bool false, .slice none 0 0] 24 (0, 0)) (by (with_reducible repeat (first |  refine zKn ?_ _|  refine zKd ?_|  refine zKa ?_ _)); exact BK652.out) hb); replace HB := zMk (zBt (by exact uT HB.out) hb); have hcz53_0 : w52.cell? ⟨gb651, 0, none⟩ = some (.bool a1_0) := (zKc BK651.out 0).trans rfl; have hcz53_1 : w52.cell? ⟨gb651, 1, none⟩ = some (.slice A1_1 l1_1.length c1_1) := (zKc BK651.out 1).trans rfl; have hfz53_0 := zKf BK651.out 0; have hfz53_1 := zKf BK651.out 1; have hcz54_0 : w52.cell? ⟨gb650, 0, none⟩ = some (.bool a0_0) := (zKc BK650.out 0).trans rfl; have hcz54_1 : w52.cell? ⟨gb650, 1, none⟩ = some (.slice A0_1 l0_1.length c0_1) := (zKc BK650.out 1).trans rfl; have hfz54_0 := zKf BK650.out 0; have hfz54_1 := zKf BK650.out 1)|((with_reducible refine gate_callee (f := 43) rfl ?_); refine goesL_ (some 45) rfl rfl Tryd.func43 (by kernel_rfl) rfl #[.slice A1_1 l1_1.length c1_1, .slice A0_1 l0_1.length c0_1] rfl (by (try simp only [zMa, zMc, zMn]); first |  done|  rfl|  (simp only [zLd, zLt]; rfl)) ?_; (with_reducible refine (r1_Sub.calls k _ _ l1_1 _ _ l0_1 t669 t670 _ ?side1 ?side2 ?side3 ?side4 A42.out).mono ?_); (case side1 => repeat (first |  exact (Kd.C_below HR1_1.out HB.out)|(with_reducible refine zCa ?_ _)|(with_reducible refine zCn ?_ _)|(with_reducible refine zCd ?_))); (case side2 => exact HC1_1.out); (case side3 => repeat (first |  exact (Kd.C_below HR0_1.out HB.out)|(with_reducible refine zCa ?_ _)|(with_reducible refine zCn ?_ _)|(with_reducible refine zCd ?_))); (case side4 => exact HC0_1.out); rintro e w55 ⟨v671, rfl, ho0, hb⟩; refine ⟨_, rfl, ?_⟩; have HO672 := zMk (zRl ho0 (zBs (by exact uT HB.out))); replace BK650 := zMk (zKb (g := gb650) (o := .cells #[.bool a0_0, .slice A0_1 l0_1.length c0_1] 24 (0, 0)) (by (with_reducible repeat (first |  refine zKn ?_ _|  refine zKd ?_|  refine zKa ?_ _)); exact BK650.out) hb); replace BK651 := zMk (zKb (g := gb651) (o := .cells #[.bool a1_0, .slice A1_1 l1_1.length c1_1] 24 (0, 0)) (by (with_reducible repeat (first |  refine zKn ?_ _|  refine zKd ?_|  refine zKa ?_ _)); exact BK651.out) hb); replace BK652 := zMk (zKb (g := gb652) (o := .cells #[.bool false, .slice none 0 0] 24 (0, 0)) (by (with_reducible repeat (first |  refine zKn ?_ _|  refine zKd ?_|  refine zKa ?_ _)); exact BK652.out) hb); replace HB := zMk (zBt (by exact uT HB.out) hb); have hcz56_0 : w55.cell? ⟨gb651, 0, none⟩ = some (.bool a1_0) := (zKc BK651.out 0).trans rfl; have hcz56_1 : w55.cell? ⟨gb651, 1, none⟩ = some (.slice A1_1 l1_1.length c1_1) := (zKc BK651.out 1).trans rfl; have hfz56_0 := zKf BK651.out 0; have hfz56_1 := zKf BK651.out 1; obtain ⟨Ao57, co57, eo57⟩ := zRs HO672.out; subst eo57)|((with_reducible refine gate_callee (f := 38) rfl ?_); refine goesL_ (some 51) rfl rfl Tryd.func38 (by kernel_rfl) rfl #[.bool a1_0, .slice Ao57 t669.length co57] rfl (by (try simp only [zMa, zMc, zMn]); first |  done|  rfl|  (simp only [zLd, zLt]; rfl)) ?_; (with_reducible refine (filigreeref02_make2.calls k a1_0 _ _ t669 t673 t674 _ ?side1 ?side2 A43.out).mono ?_); (case side1 => exact uC (zRr HO672.out).2.2); (case side2 => exact (zRr HO672.out).2.1); rintro e w58 ⟨v675, rfl, ho0, hb⟩; refine ⟨_, rfl, ?_⟩; have HO676 := zMk (zRl (zRw ho0 (zRt (by exact uR HO672.out))) (zBs (by exact uT HB.out))); replace HO672 := zMk (zRe (by exact uR HO672.out) (zRz ho0) hb); replace BK650 := zMk (zKb (g := gb650) (o := .cells #[.bool a0_0, .slice A0_1 l0_1.length c0_1] 24 (0, 0)) (by (with_reducible repeat (first |  refine zKn ?_ _|  refine zKd ?_|  refine zKa ?_ _)); exact BK650.out) hb); replace BK651 := zMk (zKb (g := gb651) (o := .cells #[.bool a1_0, .slice A1_1 l1_1.length c1_1] 24 (0, 0)) (by (with_reducible repeat (first |  refine zKn ?_ _|  refine zKd ?_|  refine zKa ?_ _)); exact BK651.out) hb); replace BK652 := zMk (zKb (g := gb652) (o := .cells #[.bool false, .slice none 0 0] 24 (0, 0)) (by (with_reducible repeat (first |  refine zKn ?_ _|  refine zKd ?_|  refine zKa ?_ _)); exact BK652.out) hb); replace HB := zMk (zBt (by exact uT HB.out) hb); have hcz59_0 : w58.cell? ⟨gb652, 0, none⟩ = some (.bool false) := (zKc BK652.out 0).trans rfl; have hcz59_1 : w58.cell? ⟨gb652, 1, none⟩ = some (.slice none 0 0) := (zKc BK652.out 1).trans rfl; have hfz59_0 := zKf BK652.out 0; have hfz59_1 := zKf BK652.out 1; obtain ⟨Ao60, co60, eo60⟩ := zRs HO676.out; subst eo60))
      refine bodyPost_ret (results_cell_row rfl _ _ gb652 24 #[.bool t673, .slice Ao60 t674.length co60] (0, 0) _ rfl (by (with_reducible repeat (first | refine zKn ?_ _ | refine zKd ?_ | refine zKa ?_ _)); refine blk_put (cs := #[.bool t673, .slice none 0 0]) ?_ 1 _ rfl; (with_reducible repeat (first | refine zKn ?_ _ | refine zKd ?_ | refine zKa ?_ _)); refine blk_put (cs := #[.bool false, .slice none 0 0]) ?_ 0 _ rfl; (with_reducible repeat (first | refine zKn ?_ _ | refine zKd ?_ | refine zKa ?_ _)); exact BK652.out) Tryd.underlying24 rfl (by kernel_rfl)) rfl ?_
      exact ⟨_, by first | rfl | (simp [errW_none, errW_some] <;> rfl) | (simp [*, errW_none, errW_some] <;> rfl), by (with_reducible repeat (first | apply zRa | apply zRn | apply zRd)); exact zRm (Kd.R_far (p := ⟨gb652, 1, none⟩) (Kd.R_far (p := ⟨gb652, 0, none⟩) (Kd.R_types HO676.out BK652.out (by decide)) (fun _ hk => hk.2) (.bool t673)) (fun _ hk => hk.2) (.slice Ao60 t674.length co60)) (fun _ hk => trivial), by exact uT HB.out⟩


def filigreeref02_Neg.f (k : Nat) (a0_0 : Bool) (l0_1 : List Int) : Option (Bool × List Int) := (filigreeref02_make2.f k (!a0_0) l0_1).bind fun bt679 => (some (bt679.1, bt679.2))
theorem filigreeref02_Neg.calls (k : Nat) (a0_0 : Bool) (A0_1 : Option Addr) (c0_1 : Nat) (l0_1 : List Int) (r1 : Bool) (r2 : List Int) (w : World) (hr0_1 : Kd.C (Kd.int .u32) w A0_1 l0_1.length l0_1) (hc0_1 : l0_1.length ≤ c0_1) (h : filigreeref02_Neg.f k a0_0 l0_1 = some (r1, r2)) :
    Calls Tryd.prog 44 #[.agg #[.bool a0_0, .slice A0_1 l0_1.length c0_1]] w fun e w' => ∃ v1_ : Value, e = .returned (.agg #[.bool r1, v1_]) ∧ Kd.R (Kd.int .u32) 58 w' w.heap.size (fun _ => True) v1_ r2 ∧ Below w.heap.size w w' := by
  have hu24 := Tryd.underlying24
  have HR0_1 := zMk hr0_1
  have HC0_1 := zMk hc0_1
  clear hr0_1 hc0_1
  have HB := zMk (Below.refl w.heap.size w)
  have H : ((filigreeref02_make2.f k (!a0_0) l0_1).bind fun bt679 => (some (bt679.1, bt679.2))) = some (r1, r2) := h
  clear h
  replace H := bnd H
  obtain ⟨⟨t679, t680⟩, A20, H⟩ := H
  replace H : (some (t679, t680)) = some (r1, r2) := H
  have A2 := zMk A20
  clear A20
  simp only [Option.some.injEq, Prod.mk.injEq] at H
  obtain ⟨rfl, rfl⟩ := H
  go_enter Tryd.func44, Tryd.ntmps44
  go_wp2_with (first | ((with_reducible refine gate_dst (N := 1) rfl ?_); refine box_event ?hg (N := 1) ?hd (cs := #[.bool a0_0, .slice A0_1 l0_1.length c0_1]) (t := 24) ?hr ?_; (case hd => rfl); (case hg => rfl); (case hr => first | (go_simp; done)|(go_simp; rfl)|(go_simp; rw [show ∀ x : Int, IntKind.u32.wrap (IntKind.u8.wrap x) = x % 256 from fun x => (by show (x % 256) % 4294967296 = x % 256; omega)])); intro gb677 hg w3 hbox hb; have BK677 := zMk (hbox); have GW677 := zMk ((by rw [hg]; exact (zBs (by exact uT HB.out)) : w.heap.size ≤ gb677)); have GE677 := zMk ((by rw [hg]; exact (zBs (by exact uT HB.out)) : w.heap.size ≤ gb677)); have IGE677 := ownGe GE677.out; replace HB := zMk (zBt (by exact uT HB.out) hb); clear hb hbox hg)|((with_reducible refine gate_dst (N := 2) rfl ?_); refine box_event ?hg (N := 2) ?hd (cs := #[.bool false, .slice none 0 0]) (t := 24) ?hr ?_; (case hd => rfl); (case hg => rfl); (case hr => first | (go_simp; done)|(go_simp; rfl)|(go_simp; rw [show ∀ x : Int, IntKind.u32.wrap (IntKind.u8.wrap x) = x % 256 from fun x => (by show (x % 256) % 4294967296 = x % 256; omega)])); intro gb678 hg w4 hbox hb; have BK678 := zMk (hbox); have GW678 := zMk ((by rw [hg]; exact (zBs (by exact uT HB.out)) : w.heap.size ≤ gb678)); have GE678 := zMk ((by rw [hg]; exact (zBs (by exact uT HB.out)) : w.heap.size ≤ gb678)); have IGE678 := ownGe GE678.out; replace HB := zMk (zBt (by exact uT HB.out) hb); have NB677_678 := zMk ((by rw [hg]; exact Nat.ne_of_lt (blk_lt (g := gb677) (o := .cells #[.bool a0_0, .slice A0_1 l0_1.length c0_1] 24 (0, 0)) (by (with_reducible repeat (first |  refine zKn ?_ _|  refine zKd ?_|  refine zKa ?_ _)); exact BK677.out)) : gb677 ≠ gb678)); have NB678_677 := zMk ((by rw [hg]; exact Nat.ne_of_gt (blk_lt (g := gb677) (o := .cells #[.bool a0_0, .slice A0_1 l0_1.length c0_1] 24 (0, 0)) (by (with_reducible repeat (first |  refine zKn ?_ _|  refine zKd ?_|  refine zKa ?_ _)); exact BK677.out)) : gb678 ≠ gb677)); replace BK677 := zMk (zKb (g := gb677) (o := .cells #[.bool a0_0, .slice A0_1 l0_1.length c0_1] 24 (0, 0)) (by (with_reducible repeat (first |  refine zKn ?_ _|  refine zKd ?_|  refine zKa ?_ _)); exact BK677.out) hb); clear hb hbox hg; have hnb5 := NB677_678.out; have hnc5 := NB678_677.out; have hcz6_0 : w4.cell? ⟨gb677, 0, none⟩ = some (.bool a0_0) := (zKc BK677.out 0).trans rfl; have hcz6_1 : w4.cell? ⟨gb677, 1, none⟩ = some (.slice A0_1 l0_1.length c0_1) := (zKc BK677.out 1).trans rfl; have hfz6_0 := zKf BK677.out 0; have hfz6_1 := zKf BK677.out 1)|((with_reducible refine gate_callee (f := 38) rfl ?_); refine goesL_ (some 8) rfl rfl Tryd.func38 (by kernel_rfl) rfl #[.bool (!a0_0), .slice A0_1 l0_1.length c0_1] rfl (by (try simp only [zMa, zMc, zMn]); first |  done|  rfl|  (simp only [zLd, zLt]; rfl)) ?_; (with_reducible refine (filigreeref02_make2.calls k (!a0_0) _ _ l0_1 t679 t680 _ ?side1 ?side2 A2.out).mono ?_); (case side1 => repeat (first |  exact (Kd.C_below HR0_1.out HB.out)|(with_reducible refine zCa ?_ _)|(with_reducible refine zCn ?_ _)|(with_reducible refine zCd ?_))); (case side2 => exact HC0_1.out); rintro e w7 ⟨v681, rfl, ho0, hb⟩; refine ⟨_, rfl, ?_⟩; have HO682 := zMk (zRl ho0 (zBs (by exact uT HB.out))); replace BK677 := zMk (zKb (g := gb677) (o := .cells #[.bool a0_0, .slice A0_1 l0_1.length c0_1] 24 (0, 0)) (by (with_reducible repeat (first |  refine zKn ?_ _|  refine zKd ?_|  refine zKa ?_ _)); exact BK677.out) hb); replace BK678 := zMk (zKb (g := gb678) (o := .cells #[.bool false, .slice none 0 0] 24 (0, 0)) (by (with_reducible repeat (first |  refine zKn ?_ _|  refine zKd ?_|  refine zKa ?_ _)); exact BK678.out) hb); replace HB := zMk (zBt (by exact uT HB.out) hb); have hcz8_0 : w7.cell? ⟨gb678, 0, none⟩ = some (.bool false) := (zKc BK678.out 0).trans rfl; have hcz8_1 : w7.cell? ⟨gb678, 1, none⟩ = some (.slice none 0 0) := (zKc BK678.out 1).trans rfl; have hfz8_0 := zKf BK678.out 0; have hfz8_1 := zKf BK678.out 1; obtain ⟨Ao9, co9, eo9⟩ := zRs HO682.out; subst eo9))
  refine bodyPost_ret (results_cell_row rfl _ _ gb678 24 #[.bool t679, .slice Ao9 t680.length co9] (0, 0) _ rfl (by (with_reducible repeat (first | refine zKn ?_ _ | refine zKd ?_ | refine zKa ?_ _)); refine blk_put (cs := #[.bool t679, .slice none 0 0]) ?_ 1 _ rfl; (with_reducible repeat (first | refine zKn ?_ _ | refine zKd ?_ | refine zKa ?_ _)); refine blk_put (cs := #[.bool false, .slice none 0 0]) ?_ 0 _ rfl; (with_reducible repeat (first | refine zKn ?_ _ | refine zKd ?_ | refine zKa ?_ _)); exact BK678.out) Tryd.underlying24 rfl (by kernel_rfl)) rfl ?_
  exact ⟨_, by first | rfl | (simp [errW_none, errW_some] <;> rfl) | (simp [*, errW_none, errW_some] <;> rfl), by (with_reducible repeat (first | apply zRa | apply zRn | apply zRd)); exact zRm (Kd.R_far (p := ⟨gb678, 1, none⟩) (Kd.R_far (p := ⟨gb678, 0, none⟩) (Kd.R_types HO682.out BK678.out (by decide)) (fun _ hk => hk.2) (.bool t679)) (fun _ hk => hk.2) (.slice Ao9 t680.length co9)) (fun _ hk => trivial), by exact uT HB.out⟩


def filigreeref02_Norm.f (k : Nat) (a0_0 : Bool) (l0_1 : List Int) : Option (Bool × List Int) := (filigreeref02_make2.f k a0_0 l0_1).bind fun bt447 => (some (bt447.1, bt447.2))
theorem filigreeref02_Norm.calls (k : Nat) (a0_0 : Bool) (A0_1 : Option Addr) (c0_1 : Nat) (l0_1 : List Int) (r1 : Bool) (r2 : List Int) (w : World) (hr0_1 : Kd.C (Kd.int .u32) w A0_1 l0_1.length l0_1) (hc0_1 : l0_1.length ≤ c0_1) (h : filigreeref02_Norm.f k a0_0 l0_1 = some (r1, r2)) :
    Calls Tryd.prog 24 #[.agg #[.bool a0_0, .slice A0_1 l0_1.length c0_1]] w fun e w' => ∃ v1_ : Value, e = .returned (.agg #[.bool r1, v1_]) ∧ Kd.R (Kd.int .u32) 58 w' w.heap.size (fun _ => True) v1_ r2 ∧ Below w.heap.size w w' := by
  have hu24 := Tryd.underlying24
  have HR0_1 := zMk hr0_1
  have HC0_1 := zMk hc0_1
  clear hr0_1 hc0_1
  have HB := zMk (Below.refl w.heap.size w)
  have H : ((filigreeref02_make2.f k a0_0 l0_1).bind fun bt447 => (some (bt447.1, bt447.2))) = some (r1, r2) := h
  clear h
  replace H := bnd H
  obtain ⟨⟨t447, t448⟩, A20, H⟩ := H
  replace H : (some (t447, t448)) = some (r1, r2) := H
  have A2 := zMk A20
  clear A20
  simp only [Option.some.injEq, Prod.mk.injEq] at H
  obtain ⟨rfl, rfl⟩ := H
  go_enter Tryd.func24, Tryd.ntmps24
  go_wp2_with (first | ((with_reducible refine gate_dst (N := 1) rfl ?_); refine box_event ?hg (N := 1) ?hd (cs := #[.bool a0_0, .slice A0_1 l0_1.length c0_1]) (t := 24) ?hr ?_; (case hd => rfl); (case hg => rfl); (case hr => first | (go_simp; done)|(go_simp; rfl)|(go_simp; rw [show ∀ x : Int, IntKind.u32.wrap (IntKind.u8.wrap x) = x % 256 from fun x => (by show (x % 256) % 4294967296 = x % 256; omega)])); intro gb445 hg w3 hbox hb; have BK445 := zMk (hbox); have GW445 := zMk ((by rw [hg]; exact (zBs (by exact uT HB.out)) : w.heap.size ≤ gb445)); have GE445 := zMk ((by rw [hg]; exact (zBs (by exact uT HB.out)) : w.heap.size ≤ gb445)); have IGE445 := ownGe GE445.out; replace HB := zMk (zBt (by exact uT HB.out) hb); clear hb hbox hg)|((with_reducible refine gate_dst (N := 2) rfl ?_); refine box_event ?hg (N := 2) ?hd (cs := #[.bool false, .slice none 0 0]) (t := 24) ?hr ?_; (case hd => rfl); (case hg => rfl); (case hr => first | (go_simp; done)|(go_simp; rfl)|(go_simp; rw [show ∀ x : Int, IntKind.u32.wrap (IntKind.u8.wrap x) = x % 256 from fun x => (by show (x % 256) % 4294967296 = x % 256; omega)])); intro gb446 hg w4 hbox hb; have BK446 := zMk (hbox); have GW446 := zMk ((by rw [hg]; exact (zBs (by exact uT HB.out)) : w.heap.size ≤ gb446)); have GE446 := zMk ((by rw [hg]; exact (zBs (by exact uT HB.out)) : w.heap.size ≤ gb446)); have IGE446 := ownGe GE446.out; replace HB := zMk (zBt (by exact uT HB.out) hb); have NB445_446 := zMk ((by rw [hg]; exact Nat.ne_of_lt (blk_lt (g := gb445) (o := .cells #[.bool a0_0, .slice A0_1 l0_1.length c0_1] 24 (0, 0)) (by (with_reducible repeat (first |  refine zKn ?_ _|  refine zKd ?_|  refine zKa ?_ _)); exact BK445.out)) : gb445 ≠ gb446)); have NB446_445 := zMk ((by rw [hg]; exact Nat.ne_of_gt (blk_lt (g := gb445) (o := .cells #[.bool a0_0, .slice A0_1 l0_1.length c0_1] 24 (0, 0)) (by (with_reducible repeat (first |  refine zKn ?_ _|  refine zKd ?_|  refine zKa ?_ _)); exact BK445.out)) : gb446 ≠ gb445)); replace BK445 := zMk (zKb (g := gb445) (o := .cells #[.bool a0_0, .slice A0_1 l0_1.length c0_1] 24 (0, 0)) (by (with_reducible repeat (first |  refine zKn ?_ _|  refine zKd ?_|  refine zKa ?_ _)); exact BK445.out) hb); clear hb hbox hg; have hnb5 := NB445_446.out; have hnc5 := NB446_445.out; have hcz6_0 : w4.cell? ⟨gb445, 0, none⟩ = some (.bool a0_0) := (zKc BK445.out 0).trans rfl; have hcz6_1 : w4.cell? ⟨gb445, 1, none⟩ = some (.slice A0_1 l0_1.length c0_1) := (zKc BK445.out 1).trans rfl; have hfz6_0 := zKf BK445.out 0; have hfz6_1 := zKf BK445.out 1)|((with_reducible refine gate_callee (f := 38) rfl ?_); refine goesL_ (some 7) rfl rfl Tryd.func38 (by kernel_rfl) rfl #[.bool a0_0, .slice A0_1 l0_1.length c0_1] rfl (by (try simp only [zMa, zMc, zMn]); first |  done|  rfl|  (simp only [zLd, zLt]; rfl)) ?_; (with_reducible refine (filigreeref02_make2.calls k a0_0 _ _ l0_1 t447 t448 _ ?side1 ?side2 A2.out).mono ?_); (case side1 => repeat (first |  exact (Kd.C_below HR0_1.out HB.out)|(with_reducible refine zCa ?_ _)|(with_reducible refine zCn ?_ _)|(with_reducible refine zCd ?_))); (case side2 => exact HC0_1.out); rintro e w7 ⟨v449, rfl, ho0, hb⟩; refine ⟨_, rfl, ?_⟩; have HO450 := zMk (zRl ho0 (zBs (by exact uT HB.out))); replace BK445 := zMk (zKb (g := gb445) (o := .cells #[.bool a0_0, .slice A0_1 l0_1.length c0_1] 24 (0, 0)) (by (with_reducible repeat (first |  refine zKn ?_ _|  refine zKd ?_|  refine zKa ?_ _)); exact BK445.out) hb); replace BK446 := zMk (zKb (g := gb446) (o := .cells #[.bool false, .slice none 0 0] 24 (0, 0)) (by (with_reducible repeat (first |  refine zKn ?_ _|  refine zKd ?_|  refine zKa ?_ _)); exact BK446.out) hb); replace HB := zMk (zBt (by exact uT HB.out) hb); have hcz8_0 : w7.cell? ⟨gb446, 0, none⟩ = some (.bool false) := (zKc BK446.out 0).trans rfl; have hcz8_1 : w7.cell? ⟨gb446, 1, none⟩ = some (.slice none 0 0) := (zKc BK446.out 1).trans rfl; have hfz8_0 := zKf BK446.out 0; have hfz8_1 := zKf BK446.out 1; obtain ⟨Ao9, co9, eo9⟩ := zRs HO450.out; subst eo9))
  refine bodyPost_ret (results_cell_row rfl _ _ gb446 24 #[.bool t447, .slice Ao9 t448.length co9] (0, 0) _ rfl (by (with_reducible repeat (first | refine zKn ?_ _ | refine zKd ?_ | refine zKa ?_ _)); refine blk_put (cs := #[.bool t447, .slice none 0 0]) ?_ 1 _ rfl; (with_reducible repeat (first | refine zKn ?_ _ | refine zKd ?_ | refine zKa ?_ _)); refine blk_put (cs := #[.bool false, .slice none 0 0]) ?_ 0 _ rfl; (with_reducible repeat (first | refine zKn ?_ _ | refine zKd ?_ | refine zKa ?_ _)); exact BK446.out) Tryd.underlying24 rfl (by kernel_rfl)) rfl ?_
  exact ⟨_, by first | rfl | (simp [errW_none, errW_some] <;> rfl) | (simp [*, errW_none, errW_some] <;> rfl), by (with_reducible repeat (first | apply zRa | apply zRn | apply zRd)); exact zRm (Kd.R_far (p := ⟨gb446, 1, none⟩) (Kd.R_far (p := ⟨gb446, 0, none⟩) (Kd.R_types HO450.out BK446.out (by decide)) (fun _ hk => hk.2) (.bool t447)) (fun _ hk => hk.2) (.slice Ao9 t448.length co9)) (fun _ hk => trivial), by exact uT HB.out⟩


def bits_Add32.f (a0 : Int) (a1 : Int) (a2 : Int) : Option (Int × Int) := some ((IntKind.u64.wrap ((IntKind.u64.wrap ((IntKind.u64.wrap (a0)) + (IntKind.u64.wrap (a1)))) + (IntKind.u64.wrap (a2)))) % 4294967296, ((IntKind.u64.wrap ((IntKind.u64.wrap ((IntKind.u64.wrap (a0)) + (IntKind.u64.wrap (a1)))) + (IntKind.u64.wrap (a2)))) / 4294967296) % 4294967296)
theorem bits_Add32.calls (a0 : Int) (a1 : Int) (a2 : Int) (r1 : Int) (r2 : Int) (w : World) (h : bits_Add32.f a0 a1 a2 = some (r1, r2)) :
    Calls Tryd.prog 62 #[.int .u32 a0, .int .u32 a1, .int .u32 a2] w fun e w' => e = .returned (.tuple #[.int .u32 r1, .int .u32 r2]) ∧ Drawn0 w w' := by
  have H : (some ((IntKind.u64.wrap ((IntKind.u64.wrap ((IntKind.u64.wrap (a0)) + (IntKind.u64.wrap (a1)))) + (IntKind.u64.wrap (a2)))) % 4294967296, ((IntKind.u64.wrap ((IntKind.u64.wrap ((IntKind.u64.wrap (a0)) + (IntKind.u64.wrap (a1)))) + (IntKind.u64.wrap (a2)))) / 4294967296) % 4294967296)) = some (r1, r2) := h
  clear h
  simp only [Option.some.injEq, Prod.mk.injEq] at H
  obtain ⟨rfl, rfl⟩ := H
  go_enter Tryd.func62, Tryd.ntmps62
  go_wp2
  go_ret2
  exact ⟨by first | rfl | (simp; done) | (simp [*]; done), by repeat (first | exact Drawn0.refl _ | apply Drawn0.step)⟩

end Go.Proofs.YtnjmnicgknggfaaDoor.G
