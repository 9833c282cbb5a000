/- Lemmas for the statement: the walks of the functions that it reaches, and plain laws. -/
import Derived.Test.YtnjmnicgknggfaaDoorVMore
import Derived.Test.YtnjmnicgknggfaaDoorVN
import Derived.Test.YtnjmnicgknggfaaDoorProg
import Derived.Below
import Derived.Deep.Draws
import Derived.Deep.AppendLies
import Derived.Maps.AppendAt
import Derived.OwnWalk
import Derived.Laws.BytesArg
import Derived.Laws.MakeOwn
import Derived.Laws.OwnMore
import Derived.Deep.OwnRows
import Derived.Tactics
import Derived.Lib.ConvBytes
import Derived.Laws.Slices
import Derived.WalkKit
import Derived.KernelRfl
import Derived.RowKit3
import Derived.Deep.LoopGhost
import Derived.Deep.QuietTactic
import Derived.BigQuiet
import Derived.WideLaws
import Derived.Deep.DeepCutAuto
import Derived.Deep.CutBlock
import Derived.Deep.RegionHeld3
import Derived.Laws.Rows
import Derived.Lib.AppendStr
import Derived.ArgAppend
import Derived.Laws.IdiomCopy
import Derived.OrdersHeld
import Derived.Laws.BitsLemmas
import Derived.RowKit
import Derived.WalkSpells
import Derived.RangeFuncNested
import Derived.RangeFuncBound
import Derived.RangeFuncCalls
import Derived.RangeFuncLeaves
import Derived.Shelf.Abstract
import Derived.Shelf.RegionOpen
import Derived.OwnWalkIn
import Derived.TacticsInMore
import Derived.LoopNIn
import Derived.LoopIn
import Derived.StillTailTactics
import Derived.OrdersIn
import Derived.TacticsIn
import Derived.Deep.RegionWith
import Derived.Test.YtnjmnicgknggfaaDoorVWords
import Derived.Test.YtnjmnicgknggfaaDoorVLast
import Derived.Test.YtnjmnicgknggfaaDoorVTab
import Derived.Test.YtnjmnicgknggfaaDoorVQPut
import Derived.Test.YtnjmnicgknggfaaDoorVApart
import Derived.Test.YtnjmnicgknggfaaDoorVArr
import Derived.Test.YtnjmnicgknggfaaDoorVZeros
import Derived.Test.YtnjmnicgknggfaaDoorVFoot
import Derived.Test.YtnjmnicgknggfaaDoorVKept
import Derived.Test.YtnjmnicgknggfaaDoorVShare
import Derived.Test.YtnjmnicgknggfaaDoorVRepsOne
import Derived.Test.YtnjmnicgknggfaaDoorVGuard
import Derived.Test.YtnjmnicgknggfaaDoorVNEv
import Derived.OpenShut
set_option linter.unusedVariables false
set_option linter.unusedSimpArgs false
set_option maxHeartbeats 8000000
set_option maxRecDepth 100000
namespace Go.Proofs.YtnjmnicgknggfaaDoorW.PrintWords
open Go Go.RowKit Go.Proofs.YtnjmnicgknggfaaDoorW.PrintWords Go.Proofs.YtnjmnicgknggfaaDoorW.PrintLast Go.Proofs.YtnjmnicgknggfaaDoorW.PrintMore
attribute [local go_sem] max2_int min2_int max_two min_two max_three min_three max_four min_four
open Go.Proofs.YtnjmnicgknggfaaDoorW.PrintWords.Kd renaming R_alloc → zRa, R_drewN → zRn, R_drew → zRd, V_alloc → zVa, V_drewN → zVn, V_drew → zVd, V_below → zVb, C_alloc → zCa, C_drewN → zCn, C_drew → zCd, R_mono → zRm, V_mono → zVm, at_int → zAi, R_elder' → zRe, R_lower → zRl, R_new' → zRw, R_lt → zRt, R_below → zRb, R_base → zRz, R_reads' → zRr, R_slice → zRs, V_elder' → zVe, V_lower → zVl, V_slice → zVs, V_reads' → zVr
open Go.Proofs.YtnjmnicgknggfaaDoorW.PrintWords renaming pw_below_drewN → zBn, below_alloc → zBa, below_drew1 → zBd, below_size → zBs, below_step → zBt, blk_drewN → zKn, blk_drew → zKd, blk_alloc → zKa, blk_below → zKb, blk_cell → zKc, blk_frozen → zKf
open List renaming setIfInBounds_toArray → zSa, set_cons_zero → zSb, set_cons_succ → zSc, length_drop → zLd, length_take → zLt, map_toArray → zMa, map_cons → zMc, map_nil → zMn, length_cons → zLc, length_nil → zLn
open Go.Proofs.YtnjmnicgknggfaaDoorW.PrintWords.Aside0 renaming mk → zMk
open Option renaming bind_eq_some_iff → zBi, bind_some → zOb
open Option.some renaming inj → zOi
open Int renaming toNat_natCast → zTn
structure Up (W W1 : World) : Prop where
  b : Below W.heap.size W W1
instance upRefl (W : World) : Nonempty (Up W W) := ⟨⟨Below.refl _ _⟩⟩
instance upAlloc (W W1 : World) (o : Obj) [h : Nonempty (Up W W1)] : Nonempty (Up W (W1.alloc o)) := ⟨⟨zBa (h.elim fun u => u.b) o⟩⟩
instance upDrew (W W1 : World) [h : Nonempty (Up W W1)] : Nonempty (Up W W1.drew) := ⟨⟨below_drew (h.elim fun u => u.b)⟩⟩
instance upDrewN (W W1 : World) (n : Nat) [h : Nonempty (Up W W1)] : Nonempty (Up W (W1.drewN n)) := ⟨⟨zBn (h.elim fun u => u.b) n⟩⟩
structure Own (w : World) (g : Nat) : Prop where
  h : w.heap.size ≤ g
theorem ownGe {w : World} {g : Nat} (h : w.heap.size ≤ g) : Nonempty (Own w g) := ⟨⟨h⟩⟩
structure UpB (w W W1 : World) : Prop where
  f : Below w.heap.size w W → Below w.heap.size w W1
instance upbRefl (w W : World) : Nonempty (UpB w W W) := ⟨⟨id⟩⟩
instance upbAlloc (w W W1 : World) (o : Obj) [h : Nonempty (UpB w W W1)] : Nonempty (UpB w W (W1.alloc o)) := ⟨⟨fun x => zBa (h.elim fun u => u.f x) o⟩⟩
instance upbDrew (w W W1 : World) [h : Nonempty (UpB w W W1)] : Nonempty (UpB w W W1.drew) := ⟨⟨fun x => below_drew (h.elim fun u => u.f x)⟩⟩
instance upbDrewN (w W W1 : World) (n : Nat) [h : Nonempty (UpB w W W1)] : Nonempty (UpB w W (W1.drewN n)) := ⟨⟨fun x => zBn (h.elim fun u => u.f x) n⟩⟩
instance upbSet (w W W1 : World) (g j : Nat) (v : Value) [h : Nonempty (UpB w W W1)] [g0 : Nonempty (Own w g)] : Nonempty (UpB w W (W1.setCell ⟨g, j, none⟩ v)) := ⟨⟨fun x => below_set (h.elim fun u => u.f x) (g0.elim fun u => u.h)⟩⟩
theorem uT {w W W1 : World} (h : Below w.heap.size w W) [u : Nonempty (UpB w W W1)] : Below w.heap.size w W1 := (u.elim fun u => u.f) h
theorem uR {α : Type} {d : Kd α} {e base : Nat} {ok : Nat → Prop} {v : Value} {xs : List α} {W W1 : World} (h : d.R e W base ok v xs) [u : Nonempty (Up W W1)] : d.R e W1 base ok v xs := zRb h (u.elim fun u => u.b)
theorem uV {α : Type} {d : Kd α} {e base : Nat} {ok : Nat → Prop} {v : Value} {xs : List α} {W W1 : World} (h : Kd.V d e W base ok v xs) [u : Nonempty (Up W W1)] : Kd.V d e W1 base ok v xs := zVb h (u.elim fun u => u.b)
theorem uN {α : Type} {d : Kd α} {e base : Nat} {ok : Nat → Prop} {v : Value} {xs : List α} {W W1 : World} (h : Kd.N d e W base ok v xs) [u : Nonempty (Up W W1)] : Kd.N d e W1 base ok v xs := Kd.N_below h (u.elim fun u => u.b)
theorem uC {α : Type} {d : Kd α} {A : Option Addr} {n : Nat} {xs : List α} {W W1 : World} (h : d.C W A n xs) [u : Nonempty (Up W W1)] : d.C W1 A n xs := Kd.C_below h (u.elim fun u => u.b)
theorem bnd {α β : Type} {x : Option α} {f : α → Option β} {b : β} (h : x.bind f = some b) : ∃ a, x = some a ∧ f a = some b := Option.bind_eq_some_iff.mp h
theorem bsm {α β : Type} {x : α} {f : α → Option β} {b : Option β} (h : (some x).bind f = b) : f x = b := h
end Go.Proofs.YtnjmnicgknggfaaDoorW.PrintWords
namespace Go.Proofs.YtnjmnicgknggfaaDoor.D
open Go Go.RowKit Go.Proofs.YtnjmnicgknggfaaDoorW.PrintWords Go.Proofs.YtnjmnicgknggfaaDoorW.PrintLast Go.Proofs.YtnjmnicgknggfaaDoorW.PrintMore
attribute [local go_sem] max2_int min2_int max_two min_two max_three min_three max_four min_four
open Go.Proofs.YtnjmnicgknggfaaDoorW.PrintWords.Kd renaming R_alloc → zRa, R_drewN → zRn, R_drew → zRd, V_alloc → zVa, V_drewN → zVn, V_drew → zVd, V_below → zVb, C_alloc → zCa, C_drewN → zCn, C_drew → zCd, R_mono → zRm, V_mono → zVm, at_int → zAi, R_elder' → zRe, R_lower → zRl, R_new' → zRw, R_lt → zRt, R_below → zRb, R_base → zRz, R_reads' → zRr, R_slice → zRs, V_elder' → zVe, V_lower → zVl, V_slice → zVs, V_reads' → zVr
open Go.Proofs.YtnjmnicgknggfaaDoorW.PrintWords renaming pw_below_drewN → zBn, below_alloc → zBa, below_drew1 → zBd, below_size → zBs, below_step → zBt, blk_drewN → zKn, blk_drew → zKd, blk_alloc → zKa, blk_below → zKb, blk_cell → zKc, blk_frozen → zKf
open List renaming setIfInBounds_toArray → zSa, set_cons_zero → zSb, set_cons_succ → zSc, length_drop → zLd, length_take → zLt, map_toArray → zMa, map_cons → zMc, map_nil → zMn, length_cons → zLc, length_nil → zLn
open Go.Proofs.YtnjmnicgknggfaaDoorW.PrintWords.Aside0 renaming mk → zMk
open Option renaming bind_eq_some_iff → zBi, bind_some → zOb
open Option.some renaming inj → zOi
open Int renaming toNat_natCast → zTn



def errW : Option Int → Value
 | none => .nilIface
 | some c => .iface 0 (.int .i64 c)
theorem errW_none : errW none = .nilIface := rfl
theorem errW_some (c : Int) : errW (some c) = .iface 0 (.int .i64 c) := rfl

theorem info5 : (Tryd.prog.info? 5).map (fun i => (i.zero, i.size, i.bytes)) = some (some (.int .u8 0), 1, 1) := by kernel_rfl
theorem info9 : (Tryd.prog.info? 9).map (fun i => (i.zero, i.size, i.bytes)) = some (some (.string ⟨#[]⟩), 1, 16) := by kernel_rfl
theorem info58 : (Tryd.prog.info? 58).map (fun i => (i.zero, i.size, i.bytes)) = some (some (.int .u32 0), 1, 4) := by kernel_rfl
-- the values' own types
def rd_L1 (xs : List (List Int)) (i : Int) : (List Int) := xs.getD i.toNat ([] : List Int)
theorem at_L1 {w : World} {A : Option Addr} {n : Nat} {xs : List (List Int)} (h : Kd.C (Kd.slice 58 (Kd.int .u32)) w A n xs) (i : Int) (h0 : 0 ≤ i) (h1 : i < n) : ∃ ad A0 c0, A = some ad ∧ w.cell? (ad.add i.toNat) = some (.slice A0 (rd_L1 xs i).length c0) ∧ (rd_L1 xs i).length ≤ c0 ∧ (Kd.int .u32).C w A0 (rd_L1 xs i).length (rd_L1 xs i) := by
 obtain ⟨ad, c, e, _, hK, hc0⟩ := Kd.C_get h ([] : List Int) i h0 h1
 have hc : ∀ j u, c[j]? = some u → w.cell? (ad.add (i.toNat * 1 + j)) = some u := hc0
 obtain ⟨A0, c0, rfl, l0, g0⟩ := hK
 exact ⟨ad, A0, c0, e, by have hq := hc 0 _ rfl; rwa [Nat.mul_one, Nat.add_zero] at hq, l0, g0⟩


def r1_Norm.l0 : Nat → List Int → Int → Option (List Int)
 | 0, _, _ => none
 | k + 1, x0, x3 => if x3 > 0 then (if 0 ≤ (wrap64 (x3 - 1)) then (if (wrap64 (x3 - 1)) < (x0.length : Int) then (if (rd x0 (wrap64 (x3 - 1))) = 0 then (r1_Norm.l0 k x0 (wrap64 (x3 - 1))) else ((some (([] : List Int) : List Int)).bind fun y427 => (if 0 ≤ x3 then (if x3 ≤ (x0.length : Int) then (if y427.length + (x0.take (x3 : Int).toNat).length < 35184372088832 then (some (y427 ++ (x0.take (x3 : Int).toNat))) else (none)) else (none)) else (none)))) else (none)) else (none)) else ((some (([] : List Int) : List Int)).bind fun y434 => (if 0 ≤ x3 then (if x3 ≤ (x0.length : Int) then (if y434.length + (x0.take (x3 : Int).toNat).length < 35184372088832 then (some (y434 ++ (x0.take (x3 : Int).toNat))) else (none)) else (none)) else (none)))
def r1_Norm.f (k : Nat) (l0 : List Int) : Option (List Int) := r1_Norm.l0 k l0 (l0.length : Int)
theorem r1_Norm.calls (k : Nat) (A0 : Option Addr) (c0 : Nat) (l0 : List Int) (r : List Int) (w : World) (hr0 : Kd.C (Kd.int .u32) w A0 l0.length l0) (hc0 : l0.length ≤ c0) (h : r1_Norm.f k l0 = some r) :
  Calls Tryd.prog 63 #[.slice A0 l0.length c0] w fun e w' => ∃ v0_ : Value, e = .returned (v0_) ∧ Kd.R (Kd.int .u32) 58 w' w.heap.size (fun _ => True) v0_ r ∧ Below w.heap.size w w' := by
 have HR0 := zMk hr0
 have HC0 := zMk hc0
 clear hr0 hc0
 have HB := zMk (Below.refl w.heap.size w)
 have H : (r1_Norm.l0 k l0 (l0.length : Int)) = some r := h
 clear h
 have H' := zMk H
 clear H
 go_enter Tryd.func63, Tryd.ntmps63
 go_wp2
 go_loopg [3] k (fun kq v3 w' => ∃ (x3_1 : Int), v3 = .int .i64 x3_1 ∧ Aside0 (r1_Norm.l0 kq l0 x3_1 = some r) ∧ Aside0 (kq ≤ k) ∧ Aside0 (Below w.heap.size w w'))
 case atStart => exact ⟨((l0.length : Int)), (by first | rfl | (simp; done) | (simp [*]; done)), H', ⟨Nat.le_refl _⟩, ⟨by exact uT HB.out⟩⟩
 clear H'
 obtain ⟨x3_1, rfl, HA, HK1, HB⟩ := hrel
 rcases gk with _ | k1
 ·exact absurd HA.out (by simp [r1_Norm.l0])
 have H := HA.out
 clear HA
 simp only [r1_Norm.l0] at H
 by_cases c2 : x3_1 > 0
 ·rw [if_pos c2] at H
  have c2b0 : decide (0 < x3_1) = true := decide_eq_true c2
  clear c2
  obtain ⟨ji3, hji3⟩ : ∃ j_ : Int, (wrap64 (x3_1 - 1)) = j_ := ⟨_, rfl⟩
  replace H : (if 0 ≤ (ji3) then (if (ji3) < (l0.length : Int) then (if (rd l0 (ji3)) = 0 then (r1_Norm.l0 k1 l0 ji3) else ((some (([] : List Int) : List Int)).bind fun y427 => (if 0 ≤ x3_1 then (if x3_1 ≤ (l0.length : Int) then (if y427.length + (l0.take (x3_1 : Int).toNat).length < 35184372088832 then (some (y427 ++ (l0.take (x3_1 : Int).toNat))) else (none)) else (none)) else (none)))) else (none)) else (none)) = some r := by first | (rw [hji3] at H; exact H) | (simp only [hji3] at H ⊢; exact H)
  have hji3w : (IntKind.i64.wrap (x3_1 - 1)) = ji3 := (i64_w _).trans hji3
  by_cases c4 : 0 ≤ (ji3)
  rotate_left
  ·rw [if_neg c4] at H; exact absurd H (by simp)
  rw [if_pos c4] at H
  have c4b0 : decide (0 ≤ (ji3)) = true := decide_eq_true c4
  clear c4
  by_cases c5 : (ji3) < (l0.length : Int)
  rotate_left
  ·rw [if_neg c5] at H; exact absurd H (by simp)
  rw [if_pos c5] at H
  have c5b0 : decide ((ji3) < (l0.length : Int)) = true := decide_eq_true c5
  clear c5
  by_cases c6 : (rd l0 (ji3)) = 0
  ·rw [if_pos c6] at H
   have c6b0 : ((rd l0 (ji3)) == 0) = true := beq_iff_eq.mpr c6
   have c6b1 : ((rd l0 (ji3)) != 0) = false := bne_eq_false_iff_eq.mpr c6
   clear c6
   have H' := zMk H
   clear H
   have p426 : 0 ≤ ((ji3) : Int) := of_decide_eq_true (by assumption)
   have q426 : (ji3) < (l0.length : Int) := of_decide_eq_true (by assumption)
   obtain ⟨ad426, e426, hx426_0⟩ := zAi HR0.out (ji3) p426 q426
   cases e426
   replace hx426_0 := (HB.out.cell (World.block_lt_of_cell? w _ hx426_0)).trans hx426_0
   replace p426 := eq_true p426
   replace q426 := eq_true q426
   go_wp2
   go_roundg k1
   case measure => have := HK1.out; omega
   case rel => exact ⟨(ji3), (by first | rfl | (simp; done) | (simp only [← hji3] <;> (first | rfl | simp)) | (simp [*]; done)), H', ⟨by have := HK1.out; omega⟩, ⟨by exact uT HB.out⟩⟩
  ·rw [if_neg c6] at H
   have c6b0 : ((rd l0 (ji3)) == 0) = false := beq_eq_false_iff_ne.mpr c6
   have c6b1 : ((rd l0 (ji3)) != 0) = true := bne_iff_ne.mpr c6
   obtain ⟨y427, hy427⟩ : ∃ y_ : List Int, y_ = (([] : List Int)) := ⟨_, rfl⟩
   replace H : (if 0 ≤ x3_1 then (if x3_1 ≤ (l0.length : Int) then (if y427.length + (l0.take (x3_1 : Int).toNat).length < 35184372088832 then (some (y427 ++ (l0.take (x3_1 : Int).toNat))) else (none)) else (none)) else (none)) = some r := by first | (rw [hy427]; with_reducible exact H) | (have H2_ := bsm H; first | (rw [hy427]; with_reducible exact H2_) | with_reducible exact H2_) | with_reducible exact H | (rw [hy427]; exact H) | exact H
   have Ny427 := zMk hy427
   clear hy427
   by_cases c7 : 0 ≤ x3_1
   rotate_left
   ·rw [if_neg c7] at H; exact absurd H (by simp)
   rw [if_pos c7] at H
   have c7b0 := eq_true c7
   have c7b1 : decide (0 ≤ x3_1) = true := decide_eq_true c7
   clear c7
   by_cases c8 : x3_1 ≤ (l0.length : Int)
   rotate_left
   ·rw [if_neg c8] at H; exact absurd H (by simp)
   rw [if_pos c8] at H
   have c8b0 := eq_true c8
   have c8b1 : decide (x3_1 ≤ (l0.length : Int)) = true := decide_eq_true c8
   clear c8
   by_cases c9 : y427.length + (l0.take (x3_1 : Int).toNat).length < 35184372088832
   rotate_left
   ·rw [if_neg c9] at H; exact absurd H (by simp)
   rw [if_pos c9] at H
   have LMc9 := zMk c9
   clear c9
   obtain ⟨y431, hy431⟩ : ∃ y_ : List Int, y_ = (y427 ++ (l0.take (x3_1 : Int).toNat)) := ⟨_, rfl⟩
   replace H : (some y431) = some r := by first | (rw [hy431]; with_reducible exact H) | (have H2_ := bsm H; first | (rw [hy431]; with_reducible exact H2_) | with_reducible exact H2_) | with_reducible exact H | (rw [hy431]; exact H) | exact H
   have Ny431 := zMk hy431
   clear hy431
   obtain rfl := zOi H
   have p426 : 0 ≤ ((ji3) : Int) := of_decide_eq_true (by assumption)
   have q426 : (ji3) < (l0.length : Int) := of_decide_eq_true (by assumption)
   obtain ⟨ad426, e426, hx426_0⟩ := zAi HR0.out (ji3) p426 q426
   cases e426
   replace hx426_0 := (HB.out.cell (World.block_lt_of_cell? w _ hx426_0)).trans hx426_0
   replace p426 := eq_true p426
   replace q426 := eq_true q426
   go_wp2_with (first | ((with_reducible refine gate_dst (N:=18) rfl ?_); refine Kd.R_lit (Kd.int .u32) _ 58 ?hg (N:=18) ?hd (xs:=([] : List Int)) (inner:=[]) (ok:=fun _ => True) (okp:=fun _ => True) ?hr ?hp (fun _ hk => hk) trivial (Below.refl _ _) (Nat.le_refl _) (by simp) ?_; (case hd => rfl); (case hg => rfl); (case hr => first | (go_simp; done)|(go_simp; rfl)|(go_simp; rw [show ∀ x : Int, IntKind.u32.wrap (IntKind.u8.wrap x) = x % 256 from fun x => (by show (x % 256) % 4294967296 = x % 256; omega)])); (case hp => exact (Reps.none _ _)); intro v428 w10 ho11 hb hg_ hnew_; clear hg_ hnew_; (first |  rw [← Ny427.out] at ho11|  (simp only [Int.reduceToNat] at ho11; rw [← Ny427.out] at ho11)); have HO429 := zMk (zRl ho11 (zBs (uT HB.out))); replace HB := zMk (zBt (uT HB.out) hb); clear hb ho11; obtain ⟨i012, hi012, _, hsz12, _⟩ := info_parts info58; obtain ⟨hcut12, hA12, hC12⟩ := print_take_of (P:=Tryd.prog) (Value.int .u32) 0 22 58 .i64 Tryd.underlying22 hi012 hsz12 (some ad426) c0 l0 x3_1 (of_decide_eq_true (by first | (with_reducible assumption)|  assumption)) (of_decide_eq_true (by first | (with_reducible assumption)|  assumption)) HC0.out; have HR430 := zMk (Kd.C_of_reads (h1:=fun _ => rfl) (hA12 _ (Kd.reads_of_C HR0.out))); have HC430 := zMk hC12; clear hA12 hC12 hi012 hsz12)|((with_reducible refine gate_builtin (b:=.append) (xs:=#[.tmp 18, .tmp 21]) rfl ?_); at_builtin; refine Kd.R_append_rows (Kd.int .u32) (w0:=w) w.heap.size rfl (.tmp 18) (.tmp 21) 22 58 (.int .u32 0) 4 rfl Tryd.underlying22 info58 rfl (by decide) (by omega) v428 y427 (l0.take (x3_1 : Int).toNat) _ _ _ (fun _ => True) (fun _ => False) rfl rfl ?aO ?aR (fun _ _ h => h) (fun _ h => h.elim) ?aF ?aB ?aS ?aL ?_; (case aR => first | ((conv => arg 5; rw [← show (l0.take (x3_1 : Int).toNat).length = x3_1.toNat from (by rw [zLt]; have h_ : (x3_1 : Int) ≤ (l0.length : Int) := of_decide_eq_true (by first | (with_reducible assumption)|  assumption); omega)]); repeat (first |  exact (Kd.C_below HR430.out HB.out)|(with_reducible refine zCa ?_ _)|(with_reducible refine zCn ?_ _)|(with_reducible refine zCd ?_)))|(rw [← show (l0.take (x3_1 : Int).toNat).length = x3_1.toNat from (by rw [zLt]; have h_ : (x3_1 : Int) ≤ (l0.length : Int) := of_decide_eq_true (by first | (with_reducible assumption)|  assumption); omega)]; repeat (first |  exact (Kd.C_below HR430.out HB.out)|(with_reducible refine zCa ?_ _)|(with_reducible refine zCn ?_ _)|(with_reducible refine zCd ?_)))|(repeat (first |  exact (Kd.C_below HR430.out HB.out)|(with_reducible refine zCa ?_ _)|(with_reducible refine zCn ?_ _)|(with_reducible refine zCd ?_)))); (case aB => exact (uT HB.out)); (case aF => exact (fun _ _ => trivial)); (case aO => exact (uR HO429.out)); (case aS => exact (zBs (uT HB.out))); (case aL => have := LMc9.out; have hlx_ := (show (l0.take (x3_1 : Int).toNat).length = x3_1.toNat from (by rw [zLt]; have h_ : (x3_1 : Int) ≤ (l0.length : Int) := of_decide_eq_true (by first | (with_reducible assumption)|  assumption); omega)); omega); intro v432 w13 ho hb hg hat; rw [← Ny431.out] at ho; replace HB := zMk (hb); have HO433 := zMk (ho); clear HO429 ho hb hg hat))
   go_ret
   exact ⟨_, by first | rfl | (simp [errW_none, errW_some] <;> rfl) | (simp only [← hji3]; first | rfl | (simp [errW_none, errW_some] <;> rfl)) | (simp [*, errW_none, errW_some] <;> rfl), by exact uR HO433.out, by exact uT HB.out⟩
 ·rw [if_neg c2] at H
  have c2b0 : decide (0 < x3_1) = false := decide_eq_false c2
  clear c2
  obtain ⟨y434, hy434⟩ : ∃ y_ : List Int, y_ = (([] : List Int)) := ⟨_, rfl⟩
  replace H : (if 0 ≤ x3_1 then (if x3_1 ≤ (l0.length : Int) then (if y434.length + (l0.take (x3_1 : Int).toNat).length < 35184372088832 then (some (y434 ++ (l0.take (x3_1 : Int).toNat))) else (none)) else (none)) else (none)) = some r := by first | (rw [hy434]; with_reducible exact H) | (have H2_ := bsm H; first | (rw [hy434]; with_reducible exact H2_) | with_reducible exact H2_) | with_reducible exact H | (rw [hy434]; exact H) | exact H
  have Ny434 := zMk hy434
  clear hy434
  by_cases c14 : 0 ≤ x3_1
  ·rw [if_pos c14] at H
   have c14b0 := eq_true c14
   have c14b1 : decide (0 ≤ x3_1) = true := decide_eq_true c14
   clear c14
   by_cases c15 : x3_1 ≤ (l0.length : Int)
   rotate_left
   ·rw [if_neg c15] at H; exact absurd H (by simp)
   rw [if_pos c15] at H
   have c15b0 := eq_true c15
   have c15b1 : decide (x3_1 ≤ (l0.length : Int)) = true := decide_eq_true c15
   clear c15
   by_cases c16 : y434.length + (l0.take (x3_1 : Int).toNat).length < 35184372088832
   rotate_left
   ·rw [if_neg c16] at H; exact absurd H (by simp)
   rw [if_pos c16] at H
   have LMc16 := zMk c16
   clear c16
   obtain ⟨y438, hy438⟩ : ∃ y_ : List Int, y_ = (y434 ++ (l0.take (x3_1 : Int).toNat)) := ⟨_, rfl⟩
   replace H : (some y438) = some r := by first | (rw [hy438]; with_reducible exact H) | (have H2_ := bsm H; first | (rw [hy438]; with_reducible exact H2_) | with_reducible exact H2_) | with_reducible exact H | (rw [hy438]; exact H) | exact H
   have Ny438 := zMk hy438
   clear hy438
   obtain rfl := zOi H
   go_wp2_with (first | ((with_reducible refine gate_dst (N:=18) rfl ?_); refine Kd.R_lit (Kd.int .u32) _ 58 ?hg (N:=18) ?hd (xs:=([] : List Int)) (inner:=[]) (ok:=fun _ => True) (okp:=fun _ => True) ?hr ?hp (fun _ hk => hk) trivial (Below.refl _ _) (Nat.le_refl _) (by simp) ?_; (case hd => rfl); (case hg => rfl); (case hr => first | (go_simp; done)|(go_simp; rfl)|(go_simp; rw [show ∀ x : Int, IntKind.u32.wrap (IntKind.u8.wrap x) = x % 256 from fun x => (by show (x % 256) % 4294967296 = x % 256; omega)])); (case hp => exact (Reps.none _ _)); intro v435 w17 ho18 hb hg_ hnew_; clear hg_ hnew_; (first |  rw [← Ny434.out] at ho18|  (simp only [Int.reduceToNat] at ho18; rw [← Ny434.out] at ho18)); have HO436 := zMk (zRl ho18 (zBs (uT HB.out))); replace HB := zMk (zBt (uT HB.out) hb); clear hb ho18; obtain ⟨i019, hi019, _, hsz19, _⟩ := info_parts info58; obtain ⟨hcut19, hA19, hC19⟩ := print_take_of (P:=Tryd.prog) (Value.int .u32) 0 22 58 .i64 Tryd.underlying22 hi019 hsz19 A0 c0 l0 x3_1 (of_decide_eq_true (by first | (with_reducible assumption)|  assumption)) (of_decide_eq_true (by first | (with_reducible assumption)|  assumption)) HC0.out; have HR437 := zMk (Kd.C_of_reads (h1:=fun _ => rfl) (hA19 _ (Kd.reads_of_C HR0.out))); have HC437 := zMk hC19; clear hA19 hC19 hi019 hsz19)|((with_reducible refine gate_builtin (b:=.append) (xs:=#[.tmp 18, .tmp 21]) rfl ?_); at_builtin; refine Kd.R_append_rows (Kd.int .u32) (w0:=w) w.heap.size rfl (.tmp 18) (.tmp 21) 22 58 (.int .u32 0) 4 rfl Tryd.underlying22 info58 rfl (by decide) (by omega) v435 y434 (l0.take (x3_1 : Int).toNat) _ _ _ (fun _ => True) (fun _ => False) rfl rfl ?aO ?aR (fun _ _ h => h) (fun _ h => h.elim) ?aF ?aB ?aS ?aL ?_; (case aR => first | ((conv => arg 5; rw [← show (l0.take (x3_1 : Int).toNat).length = x3_1.toNat from (by rw [zLt]; have h_ : (x3_1 : Int) ≤ (l0.length : Int) := of_decide_eq_true (by first | (with_reducible assumption)|  assumption); omega)]); repeat (first |  exact (Kd.C_below HR437.out HB.out)|(with_reducible refine zCa ?_ _)|(with_reducible refine zCn ?_ _)|(with_reducible refine zCd ?_)))|(rw [← show (l0.take (x3_1 : Int).toNat).length = x3_1.toNat from (by rw [zLt]; have h_ : (x3_1 : Int) ≤ (l0.length : Int) := of_decide_eq_true (by first | (with_reducible assumption)|  assumption); omega)]; repeat (first |  exact (Kd.C_below HR437.out HB.out)|(with_reducible refine zCa ?_ _)|(with_reducible refine zCn ?_ _)|(with_reducible refine zCd ?_)))|(repeat (first |  exact (Kd.C_below HR437.out HB.out)|(with_reducible refine zCa ?_ _)|(with_reducible refine zCn ?_ _)|(with_reducible refine zCd ?_)))); (case aB => exact (uT HB.out)); (case aF => exact (fun _ _ => trivial)); (case aO => exact (uR HO436.out)); (case aS => exact (zBs (uT HB.out))); (case aL => have := LMc16.out; have hlx_ := (show (l0.take (x3_1 : Int).toNat).length = x3_1.toNat from (by rw [zLt]; have h_ : (x3_1 : Int) ≤ (l0.length : Int) := of_decide_eq_true (by first | (with_reducible assumption)|  assumption); omega)); omega); intro v439 w20 ho hb hg hat; rw [← Ny438.out] at ho; replace HB := zMk (hb); have HO440 := zMk (ho); clear HO436 ho hb hg hat))
   go_ret
   exact ⟨_, by first | rfl | (simp [errW_none, errW_some] <;> rfl) | (simp [*, errW_none, errW_some] <;> rfl), by exact uR HO440.out, by exact uT HB.out⟩
  ·rw [if_neg c14] at H
   exact absurd H (by simp)



def cutLen (l : List Int) : Nat → Nat
 | 0 => 0
 | n + 1 => if l.getD n 0 = 0 then cutLen l n else n + 1
theorem cutLen_le (l : List Int) : ∀ n, cutLen l n ≤ n
 | 0 => Nat.le_refl _
 | n + 1 => by
  unfold cutLen
  split
  ·exact Nat.le_succ_of_le (cutLen_le l n)
  ·exact Nat.le_refl _
def n_cut.f (l0 : List Int) : Option (List Int) := some (l0.take (cutLen l0 l0.length))
theorem n_cut.exact (A0 : Option Addr) (c0 : Nat) (l0 : List Int) (w : World) (hr0 : Kd.C (Kd.int .u32) w A0 l0.length l0) (hc0 : l0.length ≤ c0) :
  Calls Tryd.prog 56 #[.slice A0 l0.length c0] w fun e w' => e = .returned (.slice A0 (cutLen l0 l0.length) c0) ∧ w = w' := by
 have HR0 := zMk hr0
 have HC0 := zMk hc0
 have hmax : l0.length ≤ 9223372036854775807 := hr0.2.1
 have HL : ∃ L, l0.length = L := ⟨_, rfl⟩
 obtain ⟨L, hL⟩ := HL
 have HLL := zMk hL
 have hc1 : L ≤ c0 := hL ▸ hc0
 have hmax1 : L ≤ 9223372036854775807 := hL ▸ hmax
 rw [hL]
 clear hr0 hc0 hL hmax
 go_enter Tryd.func56, Tryd.ntmps56
 go_wp2
 go_loop [0] (fun v => ∃ m : Nat, m ≤ L ∧ Aside0 (cutLen l0 m = cutLen l0 L) ∧ v = .slice A0 m c0) (fun v => match v with | .slice _ m _ => m | _ => 0)
 case atStart => exact ⟨L, Nat.le_refl _, ⟨rfl⟩, rfl⟩
 obtain ⟨m, hm, hcut, rfl⟩ := hrel
 rcases Nat.eq_zero_or_pos m with h0 | h0
 ·subst h0
  go_wp2
  go_ret
  exact ⟨by rw [← hcut.out]; rfl, rfl⟩
 ·have hi : ∃ j : Int, (m : Int) - 1 = j := ⟨_, rfl⟩
  obtain ⟨j, hj⟩ := hi
  have hj0 : 0 ≤ j := by omega
  have hjm : j < (m : Int) := by omega
  have hjL : j < ((l0.length : Nat) : Int) := by rw [HLL.out]; omega
  obtain ⟨ad, e, hx⟩ := zAi HR0.out j hj0 hjL
  subst e
  have hjn : j.toNat = m - 1 := by omega
  have hpos : decide (0 < m) = true := decide_eq_true h0
  have hstep : cutLen l0 m = if rd l0 j = 0 then cutLen l0 (m - 1) else m := by
   obtain ⟨n, rfl⟩ : ∃ n, m = n + 1 := ⟨m - 1, by omega⟩
   have hjn2 : j.toNat = n := by omega
   unfold rd
   rw [hjn2]
   simp only [cutLen, Nat.add_sub_cancel]
  have hstep := zMk hstep
  obtain ⟨i0, hi0, _, hsz, _⟩ := info_parts info58
  have hcutr := cut_to (P:=Tryd.prog) 22 58 .i64 Tryd.underlying22 hi0 (some ad) m c0 j hj0 (by omega) (by omega)
  rw [hjn] at hcutr
  clear hi0 hsz hjn hjL
  have hjw : IntKind.i64.wrap ((m : Int) - 1) = j := by rw [i64_w]; unfold wrap64; omega
  have p1 := eq_true hj0
  have p2 := eq_true hjm
  have p3 : decide (0 ≤ j) = true := decide_eq_true hj0
  have p4 : decide (j < (m : Int)) = true := decide_eq_true hjm
  have p5 : decide (j ≤ (m : Int)) = true := decide_eq_true (Int.le_of_lt hjm)
  by_cases hz : rd l0 j = 0
  ·have z1 : ((rd l0 j) == 0) = true := beq_iff_eq.mpr hz
   have hm2 : Aside0 (cutLen l0 (m - 1) = cutLen l0 L) := ⟨by rw [← hcut.out, hstep.out, if_pos hz]⟩
   clear hz hstep hcut
   go_wp2
   go_round
   case rel => exact ⟨m - 1, by omega, hm2, rfl⟩
   case measure => simp; omega
  ·have z1 : ((rd l0 j) == 0) = false := beq_eq_false_iff_ne.mpr hz
   have hm2 : Aside0 (m = cutLen l0 L) := ⟨by rw [← hcut.out, hstep.out, if_neg hz]⟩
   clear hz hstep hcut
   go_wp2
   go_ret
   exact ⟨congrArg (fun z => Ending.returned (Value.slice (some ad) z c0)) hm2.out, rfl⟩
theorem n_cut.calls (P0_ : Nat → Prop) (A0 : Option Addr) (c0 : Nat) (l0 : List Int) (r : List Int) (w : World) (hs0 : Kd.V (Kd.int .u32) 58 w w.heap.size (fun k_ => P0_ k_) (.slice A0 l0.length c0) l0) (h : n_cut.f l0 = some r) :
  Calls Tryd.prog 56 #[.slice A0 l0.length c0] w fun e w' => ∃ v0_ : Value, e = .returned (v0_) ∧ Kd.V (Kd.int .u32) 58 w' w.heap.size (fun k_ => (P0_ k_ ∨ w.heap.size ≤ k_)) v0_ r ∧ Below w.heap.size w w' := by
 have hv := zVr hs0
 refine (n_cut.exact A0 c0 l0 w hv.2.2 hv.2.1).mono ?_
 rintro e w' ⟨rfl, rfl⟩
 unfold n_cut.f at h
 obtain rfl := zOi h
 have hle := cutLen_le l0 l0.length
 have hF := Kd.F_take (m:=cutLen l0 l0.length) (Kd.V_F hs0) hle
 have hlen : (l0.take (cutLen l0 l0.length)).length = cutLen l0 l0.length := by rw [zLt]; omega
 refine ⟨_, rfl, ?_, Below.refl _ _⟩
 have h2 := Kd.V_mk (e:=58) (base:=w.heap.size) (c:=c0) (by rw [hlen]; omega) hF
 rw [hlen] at h2
 rw [hlen] at hF
 exact zVm h2 (fun k_ hk => .inl hk)



def slices_Clone_uint32_uint32.f (l0 : List Int) : Option (List Int) := if l0.length < 35184372088832 then some l0 else none
theorem slices_Clone_uint32_uint32.calls (A0 : Option Addr) (c0 : Nat) (l0 : List Int) (r : List Int) (w : World) (hr0 : Kd.C (Kd.int .u32) w A0 l0.length l0) (hc0 : l0.length ≤ c0) (h : slices_Clone_uint32_uint32.f l0 = some r) :
    Calls Tryd.prog 78 #[.slice A0 l0.length c0] w fun e w' => ∃ v0_ : Value, e = .returned (v0_) ∧ Kd.R (Kd.int .u32) 58 w' w.heap.size (fun _ => True) v0_ r ∧ Below w.heap.size w w' := by
  have HR0 := zMk hr0
  have HB := zMk (Below.refl w.heap.size w)
  unfold slices_Clone_uint32_uint32.f at h
  by_cases hl : l0.length < 35184372088832
  · rw [if_pos hl] at h
    obtain rfl := zOi h
    have LM := zMk hl
    clear hl h hr0
    have knil : ∀ (W : World) (a : Option Addr) (n c : Nat), (binOp .eql 22 (.slice a n c) (.slice none 0 0)).run Tryd.prog W = .ok (.bool a.isNone) W := fun W a n c => Lib.run_eql_slice_nil W 22 58 a n c 0 0 Tryd.underlying22
    cases A0 with
    | none =>
      have h0 : l0 = [] := by
        have h3 := HR0.out.2.2
        rcases Nat.eq_zero_or_pos l0.length with h4 | h4
        · exact List.eq_nil_of_length_eq_zero h4
        · obtain ⟨ad, e, _⟩ := h3 h4
          cases e
      subst h0
      go_enter Tryd.func78, Tryd.ntmps78
      go_wp2
      go_ret
      exact ⟨_, rfl, Kd.R_nil _ _ _ _ _, HB.out⟩
    | some ad =>
      go_enter Tryd.func78, Tryd.ntmps78
      go_wp2_with (first | ((with_reducible refine gate_dst (N:=5) rfl ?_); refine Kd.R_lit (Kd.int .u32) _ 58 ?hg (N:=5) ?hd (xs:=([] : List Int)) (inner:=[]) (ok:=fun _ => True) (okp:=fun _ => True) ?hr ?hp (fun _ hk => hk) trivial (Below.refl _ _) (Nat.le_refl _) (by simp) ?_; (case hd => rfl); (case hg => rfl); (case hr => first | (go_simp; done)|(go_simp; rfl)); (case hp => exact (Reps.none _ _)); intro v247 w10 ho11 hb hg_ hnew_; clear hg_ hnew_; have HO248 := zMk (zRl ho11 (zBs HB.out)); replace HB := zMk (zBt HB.out hb); clear hb ho11)|((with_reducible refine gate_builtin (b:=.append) (xs:=#[.tmp 5, .tmp 6]) rfl ?_); at_builtin; refine Kd.R_append_rows (Kd.int .u32) (w0:=w) w.heap.size rfl (.tmp 5) (.tmp 6) 22 58 (.int .u32 0) 4 rfl Tryd.underlying22 info58 rfl (by decide) (by omega) v247 [] l0 _ _ _ (fun _ => True) (fun _ => False) rfl rfl HO248.out (Kd.C_below HR0.out HB.out) (fun _ _ h => h) (fun _ h => h.elim) (fun _ _ => trivial) HB.out (zBs HB.out) (by have := LM.out; simp only [zLn]; omega) ?_; intro v251 w13 ho hb hg hat; replace HB := zMk (hb); have HO252 := zMk (ho); clear HO248 ho hb hg hat))
      go_ret
      exact ⟨_, rfl, by simpa using HO252.out, HB.out⟩
  · rw [if_neg hl] at h
    cases h


def r1_Same.l0 : Nat → List Int → List Int → Int → Option (Bool)
 | 0, _, _, _ => none
 | k + 1, x0, x1, x5 => if x5 < (x0.length : Int) then (if 0 ≤ x5 then (if x5 < (x1.length : Int) then (if (rd x0 x5) = (rd x1 x5) then (r1_Same.l0 k x0 x1 (wrap64 (x5 + 1))) else (some false)) else (none)) else (none)) else (some true)
def r1_Same.f (k : Nat) (l0 : List Int) (l1 : List Int) : Option (Bool) := if (l0.length : Int) = (l1.length : Int) then (r1_Same.l0 k l0 l1 0) else (some false)
theorem r1_Same.calls (k : Nat) (A0 : Option Addr) (c0 : Nat) (l0 : List Int) (A1 : Option Addr) (c1 : Nat) (l1 : List Int) (r : Bool) (w : World) (hr0 : Kd.C (Kd.int .u32) w A0 l0.length l0) (hc0 : l0.length ≤ c0) (hr1 : Kd.C (Kd.int .u32) w A1 l1.length l1) (hc1 : l1.length ≤ c1) (h : r1_Same.f k l0 l1 = some r) :
  Calls Tryd.prog 40 #[.slice A0 l0.length c0, .slice A1 l1.length c1] w fun e w' => e = .returned (.bool r) ∧ Drawn0 w w' := by
 have HR0 := zMk hr0
 have HC0 := zMk hc0
 clear hr0 hc0
 have HR1 := zMk hr1
 have HC1 := zMk hc1
 clear hr1 hc1
 have H : (if (l0.length : Int) = (l1.length : Int) then (r1_Same.l0 k l0 l1 0) else (some false)) = some r := h
 clear h
 by_cases c3 : (l0.length : Int) = (l1.length : Int)
 ·rw [if_pos c3] at H
  have c3b0 : ((l0.length : Int) == (l1.length : Int)) = true := beq_iff_eq.mpr c3
  have c3b1 : ((l0.length : Int) != (l1.length : Int)) = false := bne_eq_false_iff_eq.mpr c3
  have c3b2 : (l0.length == l1.length) = true := by first | simpa using c3 | (simp at c3 ⊢; omega)
  clear c3
  have H' := zMk H
  clear H
  go_enter Tryd.func40, Tryd.ntmps40
  go_wp2
  repeat (go_quiet (fail); try go_wp2)
  go_loopg [5] k (fun kq v5 w' => ∃ (x5_1 : Int), v5 = .int .i64 x5_1 ∧ Aside0 (r1_Same.l0 kq l0 l1 x5_1 = some r) ∧ Aside0 (kq ≤ k) ∧ Drawn0 w w')
  case atStart => exact ⟨(0), (by first | rfl | (simp; done) | (simp [*]; done)), H', ⟨Nat.le_refl _⟩, by repeat (first | exact Drawn0.refl _ | apply Drawn0.step)⟩
  clear H'
  obtain ⟨x5_1, rfl, HA, HK1, ⟨m1, rfl⟩⟩ := hrel
  rcases gk with _ | k1
  ·exact absurd HA.out (by simp [r1_Same.l0])
  have H := HA.out
  clear HA
  simp only [r1_Same.l0] at H
  by_cases c4 : x5_1 < (l0.length : Int)
  ·rw [if_pos c4] at H
   have c4b0 : decide (x5_1 < (l0.length : Int)) = true := decide_eq_true c4
   clear c4
   by_cases c5 : 0 ≤ x5_1
   rotate_left
   ·rw [if_neg c5] at H; exact absurd H (by simp)
   rw [if_pos c5] at H
   have c5b0 : decide (0 ≤ x5_1) = true := decide_eq_true c5
   clear c5
   by_cases c6 : x5_1 < (l1.length : Int)
   rotate_left
   ·rw [if_neg c6] at H; exact absurd H (by simp)
   rw [if_pos c6] at H
   have c6b0 : decide (x5_1 < (l1.length : Int)) = true := decide_eq_true c6
   clear c6
   by_cases c7 : (rd l0 x5_1) = (rd l1 x5_1)
   ·rw [if_pos c7] at H
    have c7b0 : ((rd l0 x5_1) == (rd l1 x5_1)) = true := beq_iff_eq.mpr c7
    have c7b1 : ((rd l0 x5_1) != (rd l1 x5_1)) = false := bne_eq_false_iff_eq.mpr c7
    clear c7
    have H' := zMk H
    clear H
    have p421 : 0 ≤ (x5_1 : Int) := of_decide_eq_true (by assumption)
    have q421 : x5_1 < (l0.length : Int) := of_decide_eq_true (by assumption)
    obtain ⟨ad421, e421, hx421_0⟩ := zAi HR0.out x5_1 p421 q421
    cases e421
    replace p421 := eq_true p421
    replace q421 := eq_true q421
    have p422 : 0 ≤ (x5_1 : Int) := of_decide_eq_true (by assumption)
    have q422 : x5_1 < (l1.length : Int) := of_decide_eq_true (by assumption)
    obtain ⟨ad422, e422, hx422_0⟩ := zAi HR1.out x5_1 p422 q422
    cases e422
    replace p422 := eq_true p422
    replace q422 := eq_true q422
    go_wp2
    repeat (go_quiet (fail); try go_wp2)
    go_roundg k1
    case measure => have := HK1.out; omega
    case rel => exact ⟨(wrap64 (x5_1 + 1)), (by first | rfl | (simp; done) | (simp [*]; done)), H', ⟨by have := HK1.out; omega⟩, by repeat (first | exact Drawn0.refl _ | apply Drawn0.step)⟩
   ·rw [if_neg c7] at H
    have c7b0 : ((rd l0 x5_1) == (rd l1 x5_1)) = false := beq_eq_false_iff_ne.mpr c7
    have c7b1 : ((rd l0 x5_1) != (rd l1 x5_1)) = true := bne_iff_ne.mpr c7
    obtain rfl := zOi H
    have p421 : 0 ≤ (x5_1 : Int) := of_decide_eq_true (by assumption)
    have q421 : x5_1 < (l0.length : Int) := of_decide_eq_true (by assumption)
    obtain ⟨ad421, e421, hx421_0⟩ := zAi HR0.out x5_1 p421 q421
    cases e421
    replace p421 := eq_true p421
    replace q421 := eq_true q421
    have p422 : 0 ≤ (x5_1 : Int) := of_decide_eq_true (by assumption)
    have q422 : x5_1 < (l1.length : Int) := of_decide_eq_true (by assumption)
    obtain ⟨ad422, e422, hx422_0⟩ := zAi HR1.out x5_1 p422 q422
    cases e422
    replace p422 := eq_true p422
    replace q422 := eq_true q422
    go_wp2
    repeat (go_quiet (fail); try go_wp2)
    go_ret
    exact ⟨by first | rfl | (simp; done) | (simp [*]; done), by repeat (first | exact Drawn0.refl _ | apply Drawn0.step)⟩
  ·rw [if_neg c4] at H
   have c4b0 : decide (x5_1 < (l0.length : Int)) = false := decide_eq_false c4
   clear c4
   obtain rfl := zOi H
   go_wp2
   repeat (go_quiet (fail); try go_wp2)
   go_ret
   exact ⟨by first | rfl | (simp; done) | (simp [*]; done), by repeat (first | exact Drawn0.refl _ | apply Drawn0.step)⟩
 ·rw [if_neg c3] at H
  have c3b0 : ((l0.length : Int) == (l1.length : Int)) = false := beq_eq_false_iff_ne.mpr c3
  have c3b1 : ((l0.length : Int) != (l1.length : Int)) = true := bne_iff_ne.mpr c3
  have c3b2 : (l0.length == l1.length) = false := by first | simpa using c3 | (simp at c3 ⊢; omega)
  obtain rfl := zOi H
  go_enter Tryd.func40, Tryd.ntmps40
  go_wp2
  repeat (go_quiet (fail); try go_wp2)
  go_ret
  exact ⟨by first | rfl | (simp; done) | (simp [*]; done), by repeat (first | exact Drawn0.refl _ | apply Drawn0.step)⟩


def r1_Of.f (k : Nat) (a0 : Int) : Option (List Int) := (r1_Norm.f k (([(Go.bits .and .u64 a0 4294967295) % 4294967296, (a0 / 4294967296) % 4294967296] : List Int))).bind fun t728 => (some t728)
theorem r1_Of.calls (k : Nat) (a0 : Int) (r : List Int) (w : World) (h : r1_Of.f k a0 = some r) :
  Calls Tryd.prog 66 #[.int .u64 a0] w fun e w' => ∃ v0_ : Value, e = .returned (v0_) ∧ Kd.R (Kd.int .u32) 58 w' w.heap.size (fun _ => True) v0_ r ∧ Below w.heap.size w w' := by
 have HB := zMk (Below.refl w.heap.size w)
 have H : ((r1_Norm.f k (([(Go.bits .and .u64 a0 4294967295) % 4294967296, (a0 / 4294967296) % 4294967296] : List Int))).bind fun t728 => (some t728)) = some r := h
 clear h
 obtain ⟨y725, hy725⟩ : ∃ y_ : List Int, y_ = (([(Go.bits .and .u64 a0 4294967295) % 4294967296, (a0 / 4294967296) % 4294967296] : List Int)) := ⟨_, rfl⟩
 replace H : ((r1_Norm.f k y725).bind fun t728 => (some t728)) = some r := by first | (rw [hy725]; with_reducible exact H) | (have H2_ := bsm H; first | (rw [hy725]; with_reducible exact H2_) | with_reducible exact H2_) | with_reducible exact H | (rw [hy725]; exact H) | exact H
 have Ny725 := zMk hy725
 clear hy725
 replace H := bnd H
 obtain ⟨t728, A20, H⟩ := H
 have A2 := zMk A20
 clear A20
 obtain rfl := zOi H
 go_enter Tryd.func66, Tryd.ntmps66
 go_wp2_with (first | ((with_reducible refine gate_dst (N:=9) rfl ?_); refine Kd.R_lit (Kd.int .u32) _ 58 ?hg (N:=9) ?hd (xs:=([(Go.bits .and .u64 a0 4294967295) % 4294967296, (a0 / 4294967296) % 4294967296] : List Int)) (inner:=[.int .u32 ((Go.bits .and .u64 a0 4294967295) % 4294967296), .int .u32 ((a0 / 4294967296) % 4294967296)]) (ok:=fun _ => True) (okp:=fun _ => True) ?hr ?hp (fun _ hk => hk) trivial (Below.refl _ _) (Nat.le_refl _) (by simp) ?_; (case hd => rfl); (case hg => rfl); (case hr => first | (go_simp; done)|(go_simp; rfl)|(go_simp; rw [show ∀ x : Int, IntKind.u32.wrap (IntKind.u8.wrap x) = x % 256 from fun x => (by show (x % 256) % 4294967296 = x % 256; omega)])); (case hp => exact (Reps.one (show Kd.M (Kd.int .u32) _ _ _ ((Go.bits .and .u64 a0 4294967295) % 4294967296) [.int .u32 ((Go.bits .and .u64 a0 4294967295) % 4294967296)] from rfl) (Reps.one (show Kd.M (Kd.int .u32) _ _ _ ((a0 / 4294967296) % 4294967296) [.int .u32 ((a0 / 4294967296) % 4294967296)] from rfl) (Reps.none _ _)))); intro v726 w3 ho4 hb hg_ hnew_; clear hg_ hnew_; (first |  rw [← Ny725.out] at ho4|  (simp only [Int.reduceToNat] at ho4; rw [← Ny725.out] at ho4)); have HO727 := zMk (zRl ho4 (zBs (by exact uT HB.out))); replace HB := zMk (zBt (by exact uT HB.out) hb); clear hb ho4; obtain ⟨Ao5, co5, eo5⟩ := zRs HO727.out; subst eo5)|((with_reducible refine gate_callee (f:=63) rfl ?_); refine goesL_ (some 10) rfl rfl Tryd.func63 (by kernel_rfl) rfl #[.slice Ao5 y725.length co5] rfl (by (try simp only [zMa, zMc, zMn]); first |  done|  rfl|  (simp only [zLd, zLt]; rfl)) ?_; (with_reducible refine (r1_Norm.calls k _ _ y725 t728 _ ?side1 ?side2 A2.out).mono ?_); (case side1 => exact uC (zRr HO727.out).2.2); (case side2 => exact (zRr HO727.out).2.1); rintro e w6 ⟨v729, rfl, ho0, hb⟩; refine ⟨_, rfl, ?_⟩; have HO730 := zMk (zRl (zRw ho0 (zRt (by exact uR HO727.out))) (zBs (by exact uT HB.out))); replace HO727 := zMk (zRe (by exact uR HO727.out) (zRz ho0) hb); replace HB := zMk (zBt (by exact uT HB.out) hb)))
 go_ret
 exact ⟨_, by first | rfl | (simp [errW_none, errW_some] <;> rfl) | (simp [*, errW_none, errW_some] <;> rfl), by (with_reducible repeat (first | apply zRa | apply zRn | apply zRd)); exact zRm HO730.out (fun _ hk => trivial), by exact uT HB.out⟩


def n_Of.f (a0 : Int) : Option (List Int) := (n_cut.f (([(a0) % 4294967296, (a0 / 4294967296) % 4294967296] : List Int))).bind fun t104 => (some t104)
theorem n_Of.calls (a0 : Int) (r : List Int) (w : World) (h : n_Of.f a0 = some r) :
  Calls Tryd.prog 34 #[.int .u64 a0] w fun e w' => ∃ v0_ : Value, e = .returned (v0_) ∧ Kd.V (Kd.int .u32) 58 w' w.heap.size (fun k_ => (w.heap.size ≤ k_)) v0_ r ∧ Below w.heap.size w w' := by
 have HB := zMk (Below.refl w.heap.size w)
 have H : ((n_cut.f (([(a0) % 4294967296, (a0 / 4294967296) % 4294967296] : List Int))).bind fun t104 => (some t104)) = some r := h
 clear h
 obtain ⟨y101, hy101⟩ : ∃ y_ : List Int, y_ = (([(a0) % 4294967296, (a0 / 4294967296) % 4294967296] : List Int)) := ⟨_, rfl⟩
 replace H : ((n_cut.f y101).bind fun t104 => (some t104)) = some r := by first | (rw [hy101]; with_reducible exact H) | (have H2_ := bsm H; first | (rw [hy101]; with_reducible exact H2_) | with_reducible exact H2_) | with_reducible exact H | (rw [hy101]; exact H) | exact H
 have Ny101 := zMk hy101
 clear hy101
 replace H := bnd H
 obtain ⟨t104, A20, H⟩ := H
 have A2 := zMk A20
 clear A20
 obtain rfl := zOi H
 go_enter Tryd.func34, Tryd.ntmps34
 go_wp2_with (first | ((with_reducible refine gate_dst (N:=8) rfl ?_); refine Kd.R_lit (Kd.int .u32) _ 58 ?hg (N:=8) ?hd (xs:=([(a0) % 4294967296, (a0 / 4294967296) % 4294967296] : List Int)) (inner:=[.int .u32 ((a0) % 4294967296), .int .u32 ((a0 / 4294967296) % 4294967296)]) (ok:=fun _ => True) (okp:=fun _ => True) ?hr ?hp (fun _ hk => hk) trivial (Below.refl _ _) (Nat.le_refl _) (by simp) ?_; (case hd => rfl); (case hg => rfl); (case hr => first | (go_simp; done)|(go_simp; rfl)|(go_simp; rw [show ∀ x : Int, IntKind.u32.wrap (IntKind.u8.wrap x) = x % 256 from fun x => (by show (x % 256) % 4294967296 = x % 256; omega)])); (case hp => exact (Reps.one (show Kd.M (Kd.int .u32) _ _ _ ((a0) % 4294967296) [.int .u32 ((a0) % 4294967296)] from rfl) (Reps.one (show Kd.M (Kd.int .u32) _ _ _ ((a0 / 4294967296) % 4294967296) [.int .u32 ((a0 / 4294967296) % 4294967296)] from rfl) (Reps.none _ _)))); intro v102 w3 ho4 hb hg_ hnew_; clear hg_ hnew_; (first |  rw [← Ny101.out] at ho4|  (simp only [Int.reduceToNat] at ho4; rw [← Ny101.out] at ho4)); have HO103 := zMk (zRl (Kd.R_newM (M:=fun k_ => (w.heap.size ≤ k_)) ho4 (zBs (by exact uT HB.out)) (fun k_ h_ => h_)) (zBs (by exact uT HB.out))); replace HB := zMk (zBt (by exact uT HB.out) hb); clear hb ho4; obtain ⟨Ao5, co5, eo5⟩ := zRs HO103.out; subst eo5)|((with_reducible refine gate_callee (f:=56) rfl ?_); refine goesL_ (some 9) rfl rfl Tryd.func56 (by kernel_rfl) rfl #[.slice Ao5 y101.length co5] rfl (by (try simp only [zMa, zMc, zMn]); first |  done|  rfl|  (simp only [zLd, zLt]; rfl)) ?_; (with_reducible refine (n_cut.calls (fun k_ => some k_ = (.slice Ao5 y101.length co5 : Value).ownBlock) _ _ y101 t104 _ ?side1 A2.out).mono ?_); (case side1 => exact Kd.R_V (Kd.R_tight rfl (HO103.out))); rintro e w6 ⟨v105, rfl, ho0, hb⟩; refine ⟨_, rfl, ?_⟩; have HO106 := zMk (zVl (zVm (ok' := fun k_ => (w.heap.size ≤ k_)) ho0 (fun k_ hk_ => Or.elim hk_ (fun hs_ => ((HO103.out).1 k_ hs_.symm).1) (fun hn_ => (Nat.le_trans (zBs (by exact uT HB.out)) hn_)))) (zBs (by exact uT HB.out))); replace HO103 := zMk (zRb (by exact uR HO103.out) hb); replace HB := zMk (zBt (by exact uT HB.out) hb)))
 go_ret
 exact ⟨_, by first | rfl | (simp [errW_none, errW_some] <;> rfl) | (simp [*, errW_none, errW_some] <;> rfl), by exact uV HO106.out, by exact uT HB.out⟩


def n_Norm.f (l0 : List Int) : Option (List Int) := (n_cut.f l0).bind fun t128 => ((slices_Clone_uint32_uint32.f t128).bind fun t131 => (some t131))
theorem n_Norm.calls (A0 : Option Addr) (c0 : Nat) (l0 : List Int) (r : List Int) (w : World) (hr0 : Kd.C (Kd.int .u32) w A0 l0.length l0) (hc0 : l0.length ≤ c0) (h : n_Norm.f l0 = some r) :
    Calls Tryd.prog 57 #[.slice A0 l0.length c0] w fun e w' => ∃ v0_ : Value, e = .returned (v0_) ∧ Kd.R (Kd.int .u32) 58 w' w.heap.size (fun _ => True) v0_ r ∧ Below w.heap.size w w' := by
  have HR0 := zMk hr0
  have HC0 := zMk hc0
  clear hr0 hc0
  have HB := zMk (Below.refl w.heap.size w)
  have H : ((n_cut.f l0).bind fun t128 => ((slices_Clone_uint32_uint32.f t128).bind fun t131 => (some t131))) = some r := h
  clear h
  replace H := bnd H
  obtain ⟨t128, A20, H⟩ := H
  have A2 := zMk A20
  clear A20
  replace H := bnd H
  obtain ⟨t131, A30, H⟩ := H
  have A3 := zMk A30
  clear A30
  obtain rfl := zOi H
  go_enter Tryd.func57, Tryd.ntmps57
  go_wp2_with (first | ((with_reducible refine gate_callee (f:=56) rfl ?_); refine goesL_ (some 4) rfl rfl Tryd.func56 (by kernel_rfl) rfl #[.slice A0 l0.length c0] rfl (by (try simp only [zMa, zMc, zMn]); first |  done|  rfl|  (simp only [zLd, zLt]; rfl)) ?_; (with_reducible refine (n_cut.calls (fun k_ => k_ < w.heap.size) _ _ l0 t128 _ ?side1 A2.out).mono ?_); (case side1 => exact Kd.V_mk HC0.out (Kd.F_below (Kd.C_F (Kd.heap_int .u32) HR0.out) (by exact uT HB.out))); rintro e w4 ⟨v129, rfl, ho0, hb⟩; refine ⟨_, rfl, ?_⟩; have HO130 := zMk (zVl (zVm (ok' := fun k_ => True) ho0 (fun k_ hk_ => trivial)) (zBs (by exact uT HB.out))); replace HB := zMk (zBt (by exact uT HB.out) hb); obtain ⟨Ao5, co5, eo5⟩ := zVs HO130.out; subst eo5)|((with_reducible refine gate_callee (f:=78) rfl ?_); refine goesL_ (some 5) rfl rfl Tryd.func78 (by kernel_rfl) rfl #[.slice Ao5 t128.length co5] rfl (by (try simp only [zMa, zMc, zMn]); first |  done|  rfl|  (simp only [zLd, zLt]; rfl)) ?_; (with_reducible refine (slices_Clone_uint32_uint32.calls _ _ t128 t131 _ ?side1 ?side2 A3.out).mono ?_); (case side1 => exact uC (zVr HO130.out).2.2); (case side2 => exact (zVr HO130.out).2.1); rintro e w6 ⟨v132, rfl, ho0, hb⟩; refine ⟨_, rfl, ?_⟩; replace HO130 := zMk (zVe (by exact uV HO130.out) (zRz ho0) hb); have HO133 := zMk (zRl ho0 (zBs (by exact uT HB.out))); replace HB := zMk (zBt (by exact uT HB.out) hb)))
  go_ret
  exact ⟨_, by first | rfl | (simp [errW_none, errW_some] <;> rfl) | (simp [*, errW_none, errW_some] <;> rfl), by exact uR HO133.out, by exact uT HB.out⟩


def val : List Int → Int
 | [] => 0
 | x :: r => x + 4294967296 * val r
def Limbs (l : List Int) : Prop := ∀ x ∈ l, 0 ≤ x ∧ x < 4294967296
theorem w64 {n : Int} (h : -9223372036854775808 ≤ n) (h' : n ≤ 9223372036854775807) : wrap64 n = n := by unfold wrap64; omega
theorem limbs_of_wf {l : List Int} (h : ∀ x ∈ l, (Lit.int .u32 x).wf = true) : Limbs l := fun x hx => by
 have := Go.bounds_u32 (h x hx)
 omega
theorem Limbs.nil : Limbs [] := fun _ h => by cases h
theorem Limbs.cons {x : Int} {l : List Int} (h : Limbs (x :: l)) : (0 ≤ x ∧ x < 4294967296) ∧ Limbs l := ⟨h x (List.mem_cons_self ..), fun y hy => h y (List.mem_cons_of_mem _ hy)⟩
theorem Limbs.mk {x : Int} {l : List Int} (h0 : 0 ≤ x) (h1 : x < 4294967296) (h : Limbs l) : Limbs (x :: l) := fun y hy => by
 rcases List.mem_cons.1 hy with rfl | hy
 ·exact ⟨h0, h1⟩
 ·exact h y hy
theorem Limbs.take {l : List Int} (h : Limbs l) (n : Nat) : Limbs (l.take n) := fun x hx => h x (List.mem_of_mem_take hx)
theorem getD_lt (l : List Int) {n : Nat} (h : n < l.length) : l.getD n 0 = l[n] := by rw [List.getD_eq_getElem?_getD, List.getElem?_eq_getElem h, Option.getD_some]
theorem getD_ge (l : List Int) {n : Nat} (h : l.length ≤ n) : l.getD n 0 = 0 := by rw [List.getD_eq_getElem?_getD, List.getElem?_eq_none h, Option.getD_none]
theorem Limbs.getD {l : List Int} (h : Limbs l) (n : Nat) : 0 ≤ l.getD n 0 ∧ l.getD n 0 < 4294967296 := by
 by_cases hn : n < l.length
 ·rw [getD_lt _ hn]; exact h _ (List.getElem_mem hn)
 ·rw [getD_ge _ (by omega)]; omega
theorem val_append (a b : List Int) : val (a ++ b) = val a + 4294967296 ^ a.length * val b := by
 induction a with
 | nil => simp [val]
 | cons x a ih => simp only [List.cons_append, val, ih, zLc, Int.pow_succ]; rw [Int.mul_add, ← Int.mul_assoc, Int.mul_comm 4294967296 (4294967296 ^ a.length)]; omega
theorem val_nonneg {l : List Int} (h : Limbs l) : 0 ≤ val l := by
 induction l with
 | nil => simp [val]
 | cons x l ih => have := h.cons; have := ih this.2; simp only [val]; omega
theorem val_lt {l : List Int} (h : Limbs l) : val l < 4294967296 ^ l.length := by
 induction l with
 | nil => simp [val]
 | cons x l ih =>
  have h1 := h.cons
  have h2 := ih h1.2
  simp only [val, zLc, Int.pow_succ]
  omega

def Trim (l : List Int) : Prop := l = [] ∨ l.getD (l.length - 1) 0 ≠ 0
theorem Trim.tail {x : Int} {l : List Int} (h : Trim (x :: l)) : Trim l := by
 rcases l with _ | ⟨y, l⟩
 ·exact .inl rfl
 ·rcases h with h | h
  ·cases h
  ·exact .inr (by simpa using h)
theorem val_pos {l : List Int} (h : Limbs l) (ht : Trim l) (hn : l ≠ []) : 0 < val l := by
 induction l with
 | nil => exact absurd rfl hn
 | cons x l ih =>
  have h1 := h.cons
  rcases l with _ | ⟨y, l⟩
  ·rcases ht with ht | ht
   ·cases ht
   ·simp [val] at ht ⊢; omega
  ·have := ih h1.2 ht.tail (by simp)
   simp only [val] at this ⊢
   omega
theorem val_inj {a : List Int} : ∀ {b : List Int}, Limbs a → Trim a → Limbs b → Trim b → val a = val b → a = b := by
 induction a with
 | nil =>
  intro b _ _ hb tb h
  by_cases hn : b = []
  ·exact hn.symm
  ·have := val_pos hb tb hn
   simp only [val] at h
   omega
 | cons x a ih =>
  intro b ha ta hb tb h
  rcases b with _ | ⟨y, b⟩
  ·have := val_pos ha ta (by simp)
   simp only [val] at h this
   omega
  ·have h1 := ha.cons
   have h2 := hb.cons
   simp only [val] at h
   have h3 : x = y := by omega
   have h4 : val a = val b := by omega
   rw [h3, ih h1.2 ta.tail h2.2 tb.tail h4]

theorem cutLen_trim (l : List Int) : ∀ n, cutLen l n = 0 ∨ l.getD (cutLen l n - 1) 0 ≠ 0
 | 0 => .inl rfl
 | n + 1 => by
  simp only [cutLen]
  split
  ·exact cutLen_trim l n
  ·rename_i h
   exact .inr (by simpa using h)
theorem val_cutLen (l : List Int) : ∀ n, n ≤ l.length → val (l.take (cutLen l n)) = val (l.take n)
 | 0, _ => by simp [cutLen]
 | n + 1, h => by
  simp only [cutLen]
  split
  ·rename_i h0
   rw [val_cutLen l n (by omega), List.take_succ_eq_append_getElem (by omega), val_append]
   rw [getD_lt _ (by omega)] at h0
   simp [val, h0]
  ·rfl
def cut (l : List Int) : List Int := l.take (cutLen l l.length)
theorem cut_length (l : List Int) : (cut l).length ≤ l.length := by unfold cut; rw [zLt]; omega
theorem cut_len (l : List Int) : (cut l).length = cutLen l l.length := by have := cutLen_le l l.length; unfold cut; rw [zLt]; omega
theorem cut_limbs {l : List Int} (h : Limbs l) : Limbs (cut l) := h.take _
theorem cut_val (l : List Int) : val (cut l) = val l := by unfold cut; rw [val_cutLen l _ (Nat.le_refl _), List.take_length]
theorem cut_trim (l : List Int) : Trim (cut l) := by
 have h1 := cut_len l
 rcases cutLen_trim l l.length with h | h
 ·exact .inl (List.eq_nil_of_length_eq_zero (by omega))
 ·by_cases h0 : cutLen l l.length = 0
  ·exact .inl (List.eq_nil_of_length_eq_zero (by omega))
  ·refine .inr ?_
   rw [h1]
   unfold cut
   rw [List.getD_eq_getElem?_getD, List.getElem?_take, if_pos (by omega), ← List.getD_eq_getElem?_getD]
   exact h
theorem cut_f (l : List Int) : n_cut.f l = some (cut l) := rfl
theorem rd_nat (l : List Int) (n : Nat) : rd l (n : Int) = l.getD n 0 := by simp [rd]

theorem same_l0 (l : List Int) (hl : l.length < 4611686018427387904) : ∀ (m k : Nat), m ≤ l.length → l.length - m < k → r1_Same.l0 k l l (m : Int) = some true := by
 intro m k
 induction k generalizing m with
 | zero => intro _ h; omega
 | succ k ih =>
  intro hm hk
  simp only [r1_Same.l0]
  by_cases h : (m : Int) < (l.length : Int)
  ·simp only [h, if_true, show (0 : Int) ≤ (m : Int) from by omega, w64 (n:=(m : Int) + 1) (by omega) (by omega)]
   exact ih (m + 1) (by omega) (by omega)
  ·rw [if_neg h]
theorem same_f (l : List Int) (hl : l.length < 4611686018427387904) (k : Nat) (hk : l.length < k) : r1_Same.f k l l = some true := by
 unfold r1_Same.f
 rw [if_pos rfl]
 exact same_l0 l hl 0 k (by omega) (by omega)
theorem norm_l0 (l : List Int) (hl : l.length < 35184372088832) : ∀ (n k : Nat), n ≤ l.length → n < k → r1_Norm.l0 k l (n : Int) = some (l.take (cutLen l n)) := by
 intro n k
 induction k generalizing n with
 | zero => intro _ h; omega
 | succ k ih =>
  intro hn hk
  simp only [r1_Norm.l0]
  rcases n with _ | n
  ·rw [if_neg (by omega)]
   simp only [zOb]
   rw [if_pos (by omega), if_pos (by omega), if_pos (by simp)]
   simp [cutLen]
  ·rw [if_pos (by omega), w64 (by omega) (by omega), show ((n + 1 : Nat) : Int) - 1 = (n : Int) from by omega, if_pos (by omega), if_pos (by omega), rd_nat]
   simp only [cutLen]
   by_cases h : l.getD n 0 = 0
   ·rw [if_pos h, if_pos h]
    exact ih n (by omega) (by omega)
   ·rw [if_neg h, if_neg h]
    simp only [zOb]
    rw [if_pos (by omega), if_pos (by omega), if_pos (by simp; omega)]
    simp
theorem norm_f (l : List Int) (hl : l.length < 35184372088832) (k : Nat) (hk : l.length < k) : r1_Norm.f k l = some (cut l) := norm_l0 l hl l.length k (Nat.le_refl _) hk
theorem clone_f (l : List Int) (hl : l.length < 35184372088832) : slices_Clone_uint32_uint32.f l = some l := if_pos hl
theorem nnorm_f (l : List Int) (hl : l.length < 35184372088832) : n_Norm.f l = some (cut l) := by
 unfold n_Norm.f
 rw [cut_f, zOb, clone_f _ (by have := cut_length l; omega)]
 rfl
theorem u64_low (a : Int) (h0 : 0 ≤ a) (h1 : a < 18446744073709551616) : Go.bits .and .u64 a 4294967295 = a % 4294967296 := by
 have h := bits_and_u64_nat a.toNat (2 ^ 32 - 1) (by omega) (by decide)
 rw [Nat.and_two_pow_sub_one_eq_mod, Int.toNat_of_nonneg h0] at h
 rw [show ((4294967295 : Int)) = ((2 ^ 32 - 1 : Nat) : Int) from rfl, h]
 omega
def of2 (a : Int) : List Int := cut [a % 4294967296, a / 4294967296]
theorem of_f (a : Int) (h0 : 0 ≤ a) (h1 : a < 18446744073709551616) : n_Of.f a = some (of2 a) := by
 unfold n_Of.f
 rw [show (a / 4294967296) % 4294967296 = a / 4294967296 from by omega]
 rfl
theorem rof_f (a : Int) (h0 : 0 ≤ a) (h1 : a < 18446744073709551616) (k : Nat) (hk : 2 < k) : r1_Of.f k a = some (of2 a) := by
 unfold r1_Of.f
 rw [u64_low a h0 h1, show a % 4294967296 % 4294967296 = a % 4294967296 from by omega, show (a / 4294967296) % 4294967296 = a / 4294967296 from by omega, norm_f _ (by simp) k (by simpa using hk)]
 rfl

def cmp_isNaN_int.f (a0 : Int) : Option (Bool) := some (a0 != a0)
theorem cmp_isNaN_int.calls (a0 : Int) (r : Bool) (w : World) (h : cmp_isNaN_int.f a0 = some r) :
    Calls Tryd.prog 81 #[.int .i64 a0] w fun e w' => e = .returned (.bool r) ∧ Drawn0 w w' := by
  have H : (some (a0 != a0)) = some r := h
  clear h
  obtain rfl := zOi H
  go_enter Tryd.func81, Tryd.ntmps81
  go_wp2
  go_ret
  exact ⟨by first | rfl | (simp; done) | (simp [*]; done), by repeat (first | exact Drawn0.refl _ | apply Drawn0.step)⟩


def cmp_Compare_int.f (a0 : Int) (a1 : Int) : Option (Int) := (cmp_isNaN_int.f a0).bind fun t124 => ((cmp_isNaN_int.f a1).bind fun t125 => (if t124 = true then (if t125 = true then (some 0) else (some (-1))) else (if t125 = true then (some 1) else (if a0 < a1 then (some (-1)) else (if a0 > a1 then (some 1) else (some 0))))))
theorem cmp_Compare_int.calls (a0 : Int) (a1 : Int) (r : Int) (w : World) (h : cmp_Compare_int.f a0 a1 = some r) :
  Calls Tryd.prog 70 #[.int .i64 a0, .int .i64 a1] w fun e w' => e = .returned (.int .i64 r) ∧ Drawn0 w w' := by
 have H : ((cmp_isNaN_int.f a0).bind fun t124 => ((cmp_isNaN_int.f a1).bind fun t125 => (if t124 = true then (if t125 = true then (some 0) else (some (-1))) else (if t125 = true then (some 1) else (if a0 < a1 then (some (-1)) else (if a0 > a1 then (some 1) else (some 0))))))) = some r := h
 clear h
 replace H := bnd H
 obtain ⟨t124, A30, H⟩ := H
 have A3 := zMk A30
 clear A30
 replace H := bnd H
 obtain ⟨t125, A40, H⟩ := H
 have A4 := zMk A40
 clear A40
 by_cases c5 : t124 = true
 ·subst c5
  replace H : (if t125 = true then (some 0) else (some (-1))) = some r := by rw [if_pos rfl] at H; exact H
  by_cases c6 : t125 = true
  ·subst c6
   replace H : (some 0) = some r := by rw [if_pos rfl] at H; exact H
   obtain rfl := zOi H
   go_enter Tryd.func70, Tryd.ntmps70
   go_wp2_with (first | ((with_reducible refine gate_callee (f:=81) rfl ?_); refine goesL_ (some 8) rfl rfl Tryd.func81 (by kernel_rfl) rfl #[.int .i64 a0] rfl (by (try simp only [zMa, zMc, zMn]); first | done | rfl | (simp only [zLd, zLt]; rfl)) ?_; (with_reducible refine (cmp_isNaN_int.calls a0 true _ A3.out).mono ?_); rintro e w' ⟨rfl, ⟨nd, rfl⟩⟩; refine ⟨_, rfl, ?_⟩) | ((with_reducible refine gate_callee (f:=81) rfl ?_); refine goesL_ (some 10) rfl rfl Tryd.func81 (by kernel_rfl) rfl #[.int .i64 a1] rfl (by (try simp only [zMa, zMc, zMn]); first | done | rfl | (simp only [zLd, zLt]; rfl)) ?_; (with_reducible refine (cmp_isNaN_int.calls a1 true _ A4.out).mono ?_); rintro e w' ⟨rfl, ⟨nd, rfl⟩⟩; refine ⟨_, rfl, ?_⟩))
   go_ret
   exact ⟨by first | rfl | (simp; done) | (simp [*]; done), by repeat (first | exact Drawn0.refl _ | apply Drawn0.step)⟩
  ·replace c6 := Bool.eq_false_iff.mpr c6
   subst c6
   replace H : (some (-1)) = some r := by rw [if_neg (show ¬ (false = true) by decide)] at H; exact H
   obtain rfl := zOi H
   go_enter Tryd.func70, Tryd.ntmps70
   go_wp2_with (first | ((with_reducible refine gate_callee (f:=81) rfl ?_); refine goesL_ (some 8) rfl rfl Tryd.func81 (by kernel_rfl) rfl #[.int .i64 a0] rfl (by (try simp only [zMa, zMc, zMn]); first | done | rfl | (simp only [zLd, zLt]; rfl)) ?_; (with_reducible refine (cmp_isNaN_int.calls a0 true _ A3.out).mono ?_); rintro e w' ⟨rfl, ⟨nd, rfl⟩⟩; refine ⟨_, rfl, ?_⟩) | ((with_reducible refine gate_callee (f:=81) rfl ?_); refine goesL_ (some 10) rfl rfl Tryd.func81 (by kernel_rfl) rfl #[.int .i64 a1] rfl (by (try simp only [zMa, zMc, zMn]); first | done | rfl | (simp only [zLd, zLt]; rfl)) ?_; (with_reducible refine (cmp_isNaN_int.calls a1 false _ A4.out).mono ?_); rintro e w' ⟨rfl, ⟨nd, rfl⟩⟩; refine ⟨_, rfl, ?_⟩))
   go_ret
   exact ⟨by first | rfl | (simp; done) | (simp [*]; done), by repeat (first | exact Drawn0.refl _ | apply Drawn0.step)⟩
 ·replace c5 := Bool.eq_false_iff.mpr c5
  subst c5
  replace H : (if t125 = true then (some 1) else (if a0 < a1 then (some (-1)) else (if a0 > a1 then (some 1) else (some 0)))) = some r := by rw [if_neg (show ¬ (false = true) by decide)] at H; exact H
  by_cases c7 : t125 = true
  ·subst c7
   replace H : (some 1) = some r := by rw [if_pos rfl] at H; exact H
   obtain rfl := zOi H
   go_enter Tryd.func70, Tryd.ntmps70
   go_wp2_with (first | ((with_reducible refine gate_callee (f:=81) rfl ?_); refine goesL_ (some 8) rfl rfl Tryd.func81 (by kernel_rfl) rfl #[.int .i64 a0] rfl (by (try simp only [zMa, zMc, zMn]); first | done | rfl | (simp only [zLd, zLt]; rfl)) ?_; (with_reducible refine (cmp_isNaN_int.calls a0 false _ A3.out).mono ?_); rintro e w' ⟨rfl, ⟨nd, rfl⟩⟩; refine ⟨_, rfl, ?_⟩) | ((with_reducible refine gate_callee (f:=81) rfl ?_); refine goesL_ (some 10) rfl rfl Tryd.func81 (by kernel_rfl) rfl #[.int .i64 a1] rfl (by (try simp only [zMa, zMc, zMn]); first | done | rfl | (simp only [zLd, zLt]; rfl)) ?_; (with_reducible refine (cmp_isNaN_int.calls a1 true _ A4.out).mono ?_); rintro e w' ⟨rfl, ⟨nd, rfl⟩⟩; refine ⟨_, rfl, ?_⟩))
   go_ret
   exact ⟨by first | rfl | (simp; done) | (simp [*]; done), by repeat (first | exact Drawn0.refl _ | apply Drawn0.step)⟩
  ·replace c7 := Bool.eq_false_iff.mpr c7
   subst c7
   replace H : (if a0 < a1 then (some (-1)) else (if a0 > a1 then (some 1) else (some 0))) = some r := by rw [if_neg (show ¬ (false = true) by decide)] at H; exact H
   by_cases c8 : a0 < a1
   ·rw [if_pos c8] at H
    have c8b0 : decide (a0 < a1) = true := decide_eq_true c8
    clear c8
    obtain rfl := zOi H
    go_enter Tryd.func70, Tryd.ntmps70
    go_wp2_with (first | ((with_reducible refine gate_callee (f:=81) rfl ?_); refine goesL_ (some 8) rfl rfl Tryd.func81 (by kernel_rfl) rfl #[.int .i64 a0] rfl (by (try simp only [zMa, zMc, zMn]); first | done | rfl | (simp only [zLd, zLt]; rfl)) ?_; (with_reducible refine (cmp_isNaN_int.calls a0 false _ A3.out).mono ?_); rintro e w' ⟨rfl, ⟨nd, rfl⟩⟩; refine ⟨_, rfl, ?_⟩) | ((with_reducible refine gate_callee (f:=81) rfl ?_); refine goesL_ (some 10) rfl rfl Tryd.func81 (by kernel_rfl) rfl #[.int .i64 a1] rfl (by (try simp only [zMa, zMc, zMn]); first | done | rfl | (simp only [zLd, zLt]; rfl)) ?_; (with_reducible refine (cmp_isNaN_int.calls a1 false _ A4.out).mono ?_); rintro e w' ⟨rfl, ⟨nd, rfl⟩⟩; refine ⟨_, rfl, ?_⟩))
    go_ret
    exact ⟨by first | rfl | (simp; done) | (simp [*]; done), by repeat (first | exact Drawn0.refl _ | apply Drawn0.step)⟩
   ·rw [if_neg c8] at H
    have c8b0 : decide (a0 < a1) = false := decide_eq_false c8
    clear c8
    by_cases c9 : a0 > a1
    ·rw [if_pos c9] at H
     have c9b0 : decide (a1 < a0) = true := decide_eq_true c9
     clear c9
     obtain rfl := zOi H
     go_enter Tryd.func70, Tryd.ntmps70
     go_wp2_with (first | ((with_reducible refine gate_callee (f:=81) rfl ?_); refine goesL_ (some 8) rfl rfl Tryd.func81 (by kernel_rfl) rfl #[.int .i64 a0] rfl (by (try simp only [zMa, zMc, zMn]); first | done | rfl | (simp only [zLd, zLt]; rfl)) ?_; (with_reducible refine (cmp_isNaN_int.calls a0 false _ A3.out).mono ?_); rintro e w' ⟨rfl, ⟨nd, rfl⟩⟩; refine ⟨_, rfl, ?_⟩) | ((with_reducible refine gate_callee (f:=81) rfl ?_); refine goesL_ (some 10) rfl rfl Tryd.func81 (by kernel_rfl) rfl #[.int .i64 a1] rfl (by (try simp only [zMa, zMc, zMn]); first | done | rfl | (simp only [zLd, zLt]; rfl)) ?_; (with_reducible refine (cmp_isNaN_int.calls a1 false _ A4.out).mono ?_); rintro e w' ⟨rfl, ⟨nd, rfl⟩⟩; refine ⟨_, rfl, ?_⟩))
     go_ret
     exact ⟨by first | rfl | (simp; done) | (simp [*]; done), by repeat (first | exact Drawn0.refl _ | apply Drawn0.step)⟩
    ·rw [if_neg c9] at H
     have c9b0 : decide (a1 < a0) = false := decide_eq_false c9
     clear c9
     obtain rfl := zOi H
     go_enter Tryd.func70, Tryd.ntmps70
     go_wp2_with (first | ((with_reducible refine gate_callee (f:=81) rfl ?_); refine goesL_ (some 8) rfl rfl Tryd.func81 (by kernel_rfl) rfl #[.int .i64 a0] rfl (by (try simp only [zMa, zMc, zMn]); first | done | rfl | (simp only [zLd, zLt]; rfl)) ?_; (with_reducible refine (cmp_isNaN_int.calls a0 false _ A3.out).mono ?_); rintro e w' ⟨rfl, ⟨nd, rfl⟩⟩; refine ⟨_, rfl, ?_⟩) | ((with_reducible refine gate_callee (f:=81) rfl ?_); refine goesL_ (some 10) rfl rfl Tryd.func81 (by kernel_rfl) rfl #[.int .i64 a1] rfl (by (try simp only [zMa, zMc, zMn]); first | done | rfl | (simp only [zLd, zLt]; rfl)) ?_; (with_reducible refine (cmp_isNaN_int.calls a1 false _ A4.out).mono ?_); rintro e w' ⟨rfl, ⟨nd, rfl⟩⟩; refine ⟨_, rfl, ?_⟩))
     go_ret
     exact ⟨by first | rfl | (simp; done) | (simp [*]; done), by repeat (first | exact Drawn0.refl _ | apply Drawn0.step)⟩



section
variable {P : Program} {ops : Array Oper} {md : Region.Mode} {w : World}
def noDefer : Op → Bool
 | .defer _ => false
 | _ => true
theorem noDefer_ne {o : Op} (h : noDefer o = true) (c : Call) : o ≠ .defer c := by
 intro e; subst e; cases h
end
section
variable {P : Program} {ops : Array Oper} {md : Region.Mode} {Q : Exit → Act → World → Prop}
theorem oper_round {o : Oper} (hd : noDefer o.op = true) (r n : Nat) {a : Act} {w : World} {K K' : Act → World → Prop} (hK : ∀ a w, K a w → K' a w) (h : o.wp P a w K Q) : o.wpIn (Fence.wide.inRound r) n P a w K' Q := by
 refine ⟨fun _ _ => trivial, ?_⟩
 show o.uponIn (Fence.wide.inRound r) n P a K' Q ((o.semAt (some r) a.eval).run P w)
 rw [Oper.semAt_some r a.eval o (fun c => noDefer_ne hd c)]
 unfold Oper.wp at h
 generalize (execOp a.eval o).run P w = x at h ⊢
 cases x with
 | ok y w' =>
  cases y with
  | value v => exact hK _ _ h
  | skip => exact hK _ _ h
  | defer d => exact hK _ _ h
  | enter f args => exact ⟨fun h => by simp [Fence.wide] at h, CallsIn.inRound r (callsIn_wide.2 (h.mono fun e w'' he => by cases e <;> first | exact hK _ _ he | exact he))⟩
  | row row args => exact ⟨fun h => by simp [Fence.wide] at h, fun c cs _ => let ⟨v, w', q, s⟩ := h c cs; ⟨v, w', hK _ _ q, stepsIn_wide.2 s⟩⟩
  | _ => exact h.elim
 | halt x w' => cases x <;> exact h
theorem op_round (hQ : ¬ LetsOut Q) {i : Nat} (hd : ∀ o : Oper, ops[i]? = some o → noDefer o.op = true) (r n : Nat) {a : Act} {w : World} {K K' : Act → World → Prop} (hK : ∀ a w, K a w → K' a w) (h : wpOp P ops Q i K a w) : wpOpIn (Fence.wide.inRound r) n P ops Q i K' a w := by
 unfold wpOp at h
 unfold wpOpIn
 cases ho : ops[i]? with
 | none => rw [ho] at h; exact hK _ _ h
 | some o =>
  rw [ho] at h
  simp only at h ⊢
  split
  ·rename_i hw
   rw [if_pos hw] at h
   rcases h with h | h
   ·exact oper_round (hd o ho) r n hK h
   ·exact absurd h.2 hQ
  ·rename_i hw
   rw [if_neg hw] at h
   exact ⟨fun _ _ => trivial, hK _ _ h⟩
set_option linter.unusedVariables false in
theorem any_round (hQ : ¬ LetsOut Q) (hd : ∀ (i : Nat) (o : Oper), ops[i]? = some o → noDefer o.op = true) (r n : Nat) : ∀ (fuel : Nat) (listed : Array Bool) (a : Act) (w : World), wpAny P md ops Q fuel listed a w → wpAnyIn (Fence.wide.inRound r) n P md ops Q fuel listed a w
 | 0, _, _, _, h => h
 | fuel + 1, listed, a, w, h => ⟨h.1, fun i hi => op_round hQ (hd i) r n (fun a' w' => any_round hQ hd r n fuel _ a' w') (h.2 i hi)⟩
theorem region_round {id r n : Nat} {l : List Oper} {a : Act} {w : World} {Q' : Exit → Act → World → Prop} (R : Act → World → Prop) (hm : P.follows .mixedOrders = true) (hd : l.all (fun o => noDefer o.op) = true)
  (h : wpAny P .any l.toArray (fun e a w => e = .normal ∧ R a w) l.toArray.size (Array.replicate l.toArray.size false) a w.drew) (hR : ∀ a w, R a w → Q' .normal a w) : (Code.region id l.toArray true).wpIn (Fence.wide.inRound r) n P Q' a w := by
 have hd' : ∀ (i : Nat) (o : Oper), l.toArray[i]? = some o → noDefer o.op = true := fun i o ho => List.all_eq_true.1 hd o (by
  rw [List.getElem?_toArray] at ho
  exact List.mem_of_getElem? ho)
 refine wpIn_mono (Q:=fun e a w => e = .normal ∧ R a w) (wpIn_region_any hm (any_round (by rintro ⟨_, _, h, _⟩; cases h) hd' r n _ _ _ _ h)) ?_
 rintro e a w ⟨rfl, h⟩
 exact hR a w h
end
def KeepOk (ok : Nat → Prop) (W W' : World) : Prop := ∀ k, ok k → W'.heap[k]? = W.heap[k]?
theorem KeepOk.refl (ok : Nat → Prop) (W : World) : KeepOk ok W W := fun _ _ => rfl
theorem KeepOk.trans {ok : Nat → Prop} {A B C : World} (h : KeepOk ok A B) (k : KeepOk ok B C) : KeepOk ok A C := fun i hi => (k i hi).trans (h i hi)
theorem KeepOk.turn {ok : Nat → Prop} {w : World} (hok : ∀ k, ok k → k < w.heap.size) (W : World) (l : Nat) (o o' : Obj) (hl : w.heap.size ≤ l) (_ : W.heap[l]? = some o) (_ : o.isCells = false) (_ : o.isWalk = false) : KeepOk ok W (W.putObj l o') := by
 intro k hk
 have := hok k hk
 exact World.putObj_heap_other (by omega)
theorem KeepOk.cell {ok : Nat → Prop} {W W' : World} (h : KeepOk ok W W') {b j : Nat} (hb : ok b) : W'.cell? ⟨b, j, none⟩ = W.cell? ⟨b, j, none⟩ := by
 simp only [World.cell?, h b hb]
def bwd (L : Nat) : (k : Nat) → k ≤ L → List { i : Nat // i < L }
 | 0, _ => []
 | k + 1, h => bwd L k (Nat.le_of_succ_le h) ++ [⟨L - 1 - k, by omega⟩]
theorem bwd_length (L : Nat) : ∀ k h, (bwd L k h).length = k
 | 0, _ => rfl
 | k + 1, h => by simp [bwd, bwd_length L k]
theorem bwd_mem (L : Nat) : ∀ k h (i : Nat) (hi : i < L), L ≤ i + k → (⟨i, hi⟩ : { i : Nat // i < L }) ∈ bwd L k h
 | 0, _, i, hi, hk => by omega
 | k + 1, h, i, hi, hk => by
  unfold bwd
  rcases Nat.lt_or_ge (i + k) L with h2 | h2
  ·have : i = L - 1 - k := by omega
   subst this
   simp
  ·exact List.mem_append_left _ (bwd_mem L k _ i hi h2)
theorem bwd_last (L : Nat) {k : Nat} {h : k ≤ L} {ini : List { i : Nat // i < L }} {last : { i : Nat // i < L }} (e : bwd L k h = ini ++ [last]) : ∃ k' h', k = k' + 1 ∧ ini = bwd L k' h' ∧ last.1 = L - 1 - k' := by
 cases k with
 | zero => simp [bwd] at e
 | succ k' =>
  unfold bwd at e
  obtain ⟨e1, e2⟩ := List.append_inj' e rfl
  refine ⟨k', Nat.le_of_succ_le h, rfl, e1.symm, ?_⟩
  have : (⟨L - 1 - k', by omega⟩ : { i : Nat // i < L }) = last := by simpa using e2
  rw [← this]
attribute [local go_sem] Oper.semAt_some
theorem slices_Backward_uint32_uint32.closure (F : Fence) (n : Nat) (h8 : F.fn 82) (hro : F.round = none) (hn : 1 ≤ n) (l Bs cap : Nat) (A : Option Addr) (xs : List Int) (hcap : xs.length ≤ cap) (ok : Nat → Prop) (hBok : ok Bs) (J Jx : List { i : Nat // i < xs.length } → World → Prop)
  (hY : ∀ pre x W, J pre W → pre.length < xs.length → YieldAt F (n - 1) Tryd.prog l #[.int .i64 (x.1 : Int), .int .u32 (rd xs (x.1 : Int))] W fun e W' =>
   (e = .returned (.bool true) ∧ J (pre ++ [x]) W' ∧ KeepOk ok W W') ∨ (e = .returned (.bool false) ∧ Jx (pre ++ [x]) W'))
  (W : World) (hBs : W.cell? ⟨Bs, 0, none⟩ = some (.slice A xs.length cap)) (hF : Kd.F (Kd.int .u32) W ok A xs.length xs) (h0 : J [] W) :
  CallsIn F n Tryd.prog 82 #[.func (.yield l) #[] #[], .pointer (some ⟨Bs, 0, none⟩)] W fun e W' => (∃ v, e = .returned v) ∧
   ((∃ ys, ys = bwd xs.length xs.length (Nat.le_refl _) ∧ J ys W') ∨ (∃ pre, (∃ k h, pre = bwd xs.length k h) ∧ Jx pre W')) := by
 have HF := zMk hF
 have hmax : xs.length ≤ 9223372036854775807 := Kd.F_max hF
 have HJ0 := zMk h0
 clear hF h0
 refine callsIn_of_wp Tryd.func82 rfl h8 ?_ hro
 simp only [Tryd.ntmps82, List.size_toArray, zLc, zLn, Nat.reduceAdd, Nat.reduceSub, Array.replicate_succ, Array.replicate_zero, List.push_toArray, List.append_toArray, List.nil_append, List.cons_append]
 have hw0 : IntKind.i64.wrap ((xs.length : Int) - 1) = (xs.length : Int) - 1 := by rw [i64_w]; unfold wrap64; omega
 gi_wp2
 gi_loopw [3] (fun i wr => ∃ (k : Nat) (h : k ≤ xs.length), i = .int .i64 ((xs.length : Int) - 1 - k) ∧ Aside0 (J (bwd xs.length k h) wr) ∧ Aside0 (KeepOk ok W wr))
  (fun i _ => (intOf i + 1).toNat)
 case atStart => exact ⟨0, Nat.zero_le _, by simp, by simpa [bwd] using HJ0, ⟨KeepOk.refl _ _⟩⟩
 case round =>
  obtain ⟨k, hk, rfl, hJs, hkp⟩ := hrel
  have hb2 : wr.cell? ⟨Bs, 0, none⟩ = some (.slice A xs.length cap) := (hkp.out.cell hBok).trans hBs
  by_cases hlt : k < xs.length
  ·obtain ⟨j, hj⟩ : ∃ j : Nat, xs.length - 1 - k = j := ⟨_, rfl⟩
   have hjL : j < xs.length := by omega
   have hjz : (xs.length : Int) - 1 - k = (j : Int) := by omega
   rw [hjz]
   obtain ⟨fn, tmps, assign, body, hy, hR⟩ := hY _ ⟨j, hjL⟩ wr hJs.out (by rw [bwd_length]; exact hlt)
   have hC := Kd.F_now (Kd.F_step HF.out (fun k hk _ => hkp.out k hk))
   obtain ⟨ad, e, hx⟩ := zAi hC (j : Int) (by omega) (by omega)
   subst e
   have hjL' : (j : Int) < (xs.length : Int) := by omega
   have HR := zMk hR
   have Hj := zMk hj
   have Hjz := zMk hjz
   have Hk := zMk hlt
   clear hC hR hj hjz hlt
   dsimp only at hy
   rw [zTn] at hx
   have p4 : decide ((j : Int) < (xs.length : Int)) = true := decide_eq_true hjL'
   gi_wp2
   refine HR.out.mono ?_
   rintro e W3 (⟨rfl, hJ3, hk3⟩ | ⟨rfl, hJx3⟩)
   ·have hw1 : IntKind.i64.wrap ((j : Int) - 1) = (j : Int) - 1 := by rw [i64_w]; unfold wrap64; omega
    gi_wp2
    go_roundw
    case rel => exact ⟨k + 1, Hk.out, by have := Hjz.out; congr 1; omega, ⟨by unfold bwd; simp only [Hj.out]; exact hJ3⟩, ⟨hkp.out.trans hk3⟩⟩
    case measure => simp [intOf] <;> omega
   ·gi_wp2
    refine bodyPost_ret (results_none rfl _ _ _) rfl ?_
    exact ⟨⟨_, rfl⟩, .inr ⟨_, ⟨k + 1, Hk.out, rfl⟩, by unfold bwd; simp only [Hj.out]; exact hJx3⟩⟩
  ·obtain rfl : k = xs.length := by omega
   have hj0 : (xs.length : Int) - 1 - (xs.length : Int) = -1 := by omega
   rw [hj0]
   clear hj0
   gi_wp2
   go_end0
   exact ⟨⟨_, rfl⟩, .inl ⟨_, rfl, hJs.out⟩⟩
theorem slices_Backward_uint32_uint32.calls (A0 : Option Addr) (n c0 : Nat) (w : World) :
  Calls Tryd.prog 71 #[.slice A0 n c0] w fun e w' => e = .returned (.func (.func 82) #[] #[.pointer (some ⟨w.heap.size, 0, none⟩)]) ∧ w' = w.alloc (.cells #[.slice A0 n c0] 22) := by
 go_enter Tryd.func71, Tryd.ntmps71
 go_wp2
 go_ret
 exact ⟨rfl, rfl⟩
theorem slices_Backward_uint32_uint32.stops (F : Fence) (n : Nat) (h8 : F.fn 82) (hro : F.round = none) (hn : 1 ≤ n) (Bs cap : Nat) (A : Option Addr) (xs : List Int) (hcap : xs.length ≤ cap) (ok : Nat → Prop) (hBok : ok Bs) (w : World) (hok : ∀ k, ok k → k < w.heap.size)
  (hc : w.cell? ⟨Bs, 0, none⟩ = some (.slice A xs.length cap)) (hF : Kd.F (Kd.int .u32) w ok A xs.length xs) :
  SeqStopsK F n Tryd.prog 82 #[.pointer (some ⟨Bs, 0, none⟩)] (fun x : { i : Nat // i < xs.length } => #[Value.int .i64 (x.1 : Int), Value.int .u32 (rd xs (x.1 : Int))]) (KeepOk ok) (fun ys => ys = bwd xs.length xs.length (Nat.le_refl _))
   (fun pre => ∃ k h, pre = bwd xs.length k h) xs.length w := fun l J Jx W hW _ _ hY h0 =>
 slices_Backward_uint32_uint32.closure F n h8 hro hn l Bs cap A xs hcap ok hBok J Jx hY W ((hW.cell (p:=⟨Bs, 0, none⟩) (hok _ hBok)).trans hc) (Kd.F_step hF (fun k _ hlt => hW.block k hlt)) h0


def cmp_isNaN_uint32.f (a0 : Int) : Option (Bool) := some (a0 != a0)
theorem cmp_isNaN_uint32.calls (a0 : Int) (r : Bool) (w : World) (h : cmp_isNaN_uint32.f a0 = some r) :
    Calls Tryd.prog 83 #[.int .u32 a0] w fun e w' => e = .returned (.bool r) ∧ Drawn0 w w' := by
  have H : (some (a0 != a0)) = some r := h
  clear h
  obtain rfl := zOi H
  go_enter Tryd.func83, Tryd.ntmps83
  go_wp2
  go_ret
  exact ⟨by first | rfl | (simp; done) | (simp [*]; done), by repeat (first | exact Drawn0.refl _ | apply Drawn0.step)⟩


def cmp_Compare_uint32.f (a0 : Int) (a1 : Int) : Option (Int) := (cmp_isNaN_uint32.f a0).bind fun t126 => ((cmp_isNaN_uint32.f a1).bind fun t127 => (if t126 = true then (if t127 = true then (some 0) else (some (-1))) else (if t127 = true then (some 1) else (if a0 < a1 then (some (-1)) else (if a0 > a1 then (some 1) else (some 0))))))
theorem cmp_Compare_uint32.calls (a0 : Int) (a1 : Int) (r : Int) (w : World) (h : cmp_Compare_uint32.f a0 a1 = some r) :
  Calls Tryd.prog 72 #[.int .u32 a0, .int .u32 a1] w fun e w' => e = .returned (.int .i64 r) ∧ Drawn0 w w' := by
 have H : ((cmp_isNaN_uint32.f a0).bind fun t126 => ((cmp_isNaN_uint32.f a1).bind fun t127 => (if t126 = true then (if t127 = true then (some 0) else (some (-1))) else (if t127 = true then (some 1) else (if a0 < a1 then (some (-1)) else (if a0 > a1 then (some 1) else (some 0))))))) = some r := h
 clear h
 replace H := bnd H
 obtain ⟨t126, A30, H⟩ := H
 have A3 := zMk A30
 clear A30
 replace H := bnd H
 obtain ⟨t127, A40, H⟩ := H
 have A4 := zMk A40
 clear A40
 by_cases c5 : t126 = true
 ·subst c5
  replace H : (if t127 = true then (some 0) else (some (-1))) = some r := by rw [if_pos rfl] at H; exact H
  by_cases c6 : t127 = true
  ·subst c6
   replace H : (some 0) = some r := by rw [if_pos rfl] at H; exact H
   obtain rfl := zOi H
   go_enter Tryd.func72, Tryd.ntmps72
   go_wp2_with (first | ((with_reducible refine gate_callee (f:=83) rfl ?_); refine goesL_ (some 8) rfl rfl Tryd.func83 (by kernel_rfl) rfl #[.int .u32 a0] rfl (by (try simp only [zMa, zMc, zMn]); first | done | rfl | (simp only [zLd, zLt]; rfl)) ?_; (with_reducible refine (cmp_isNaN_uint32.calls a0 true _ A3.out).mono ?_); rintro e w' ⟨rfl, ⟨nd, rfl⟩⟩; refine ⟨_, rfl, ?_⟩) | ((with_reducible refine gate_callee (f:=83) rfl ?_); refine goesL_ (some 10) rfl rfl Tryd.func83 (by kernel_rfl) rfl #[.int .u32 a1] rfl (by (try simp only [zMa, zMc, zMn]); first | done | rfl | (simp only [zLd, zLt]; rfl)) ?_; (with_reducible refine (cmp_isNaN_uint32.calls a1 true _ A4.out).mono ?_); rintro e w' ⟨rfl, ⟨nd, rfl⟩⟩; refine ⟨_, rfl, ?_⟩))
   go_ret
   exact ⟨by first | rfl | (simp; done) | (simp [*]; done), by repeat (first | exact Drawn0.refl _ | apply Drawn0.step)⟩
  ·replace c6 := Bool.eq_false_iff.mpr c6
   subst c6
   replace H : (some (-1)) = some r := by rw [if_neg (show ¬ (false = true) by decide)] at H; exact H
   obtain rfl := zOi H
   go_enter Tryd.func72, Tryd.ntmps72
   go_wp2_with (first | ((with_reducible refine gate_callee (f:=83) rfl ?_); refine goesL_ (some 8) rfl rfl Tryd.func83 (by kernel_rfl) rfl #[.int .u32 a0] rfl (by (try simp only [zMa, zMc, zMn]); first | done | rfl | (simp only [zLd, zLt]; rfl)) ?_; (with_reducible refine (cmp_isNaN_uint32.calls a0 true _ A3.out).mono ?_); rintro e w' ⟨rfl, ⟨nd, rfl⟩⟩; refine ⟨_, rfl, ?_⟩) | ((with_reducible refine gate_callee (f:=83) rfl ?_); refine goesL_ (some 10) rfl rfl Tryd.func83 (by kernel_rfl) rfl #[.int .u32 a1] rfl (by (try simp only [zMa, zMc, zMn]); first | done | rfl | (simp only [zLd, zLt]; rfl)) ?_; (with_reducible refine (cmp_isNaN_uint32.calls a1 false _ A4.out).mono ?_); rintro e w' ⟨rfl, ⟨nd, rfl⟩⟩; refine ⟨_, rfl, ?_⟩))
   go_ret
   exact ⟨by first | rfl | (simp; done) | (simp [*]; done), by repeat (first | exact Drawn0.refl _ | apply Drawn0.step)⟩
 ·replace c5 := Bool.eq_false_iff.mpr c5
  subst c5
  replace H : (if t127 = true then (some 1) else (if a0 < a1 then (some (-1)) else (if a0 > a1 then (some 1) else (some 0)))) = some r := by rw [if_neg (show ¬ (false = true) by decide)] at H; exact H
  by_cases c7 : t127 = true
  ·subst c7
   replace H : (some 1) = some r := by rw [if_pos rfl] at H; exact H
   obtain rfl := zOi H
   go_enter Tryd.func72, Tryd.ntmps72
   go_wp2_with (first | ((with_reducible refine gate_callee (f:=83) rfl ?_); refine goesL_ (some 8) rfl rfl Tryd.func83 (by kernel_rfl) rfl #[.int .u32 a0] rfl (by (try simp only [zMa, zMc, zMn]); first | done | rfl | (simp only [zLd, zLt]; rfl)) ?_; (with_reducible refine (cmp_isNaN_uint32.calls a0 false _ A3.out).mono ?_); rintro e w' ⟨rfl, ⟨nd, rfl⟩⟩; refine ⟨_, rfl, ?_⟩) | ((with_reducible refine gate_callee (f:=83) rfl ?_); refine goesL_ (some 10) rfl rfl Tryd.func83 (by kernel_rfl) rfl #[.int .u32 a1] rfl (by (try simp only [zMa, zMc, zMn]); first | done | rfl | (simp only [zLd, zLt]; rfl)) ?_; (with_reducible refine (cmp_isNaN_uint32.calls a1 true _ A4.out).mono ?_); rintro e w' ⟨rfl, ⟨nd, rfl⟩⟩; refine ⟨_, rfl, ?_⟩))
   go_ret
   exact ⟨by first | rfl | (simp; done) | (simp [*]; done), by repeat (first | exact Drawn0.refl _ | apply Drawn0.step)⟩
  ·replace c7 := Bool.eq_false_iff.mpr c7
   subst c7
   replace H : (if a0 < a1 then (some (-1)) else (if a0 > a1 then (some 1) else (some 0))) = some r := by rw [if_neg (show ¬ (false = true) by decide)] at H; exact H
   by_cases c8 : a0 < a1
   ·rw [if_pos c8] at H
    have c8b0 : decide (a0 < a1) = true := decide_eq_true c8
    clear c8
    obtain rfl := zOi H
    go_enter Tryd.func72, Tryd.ntmps72
    go_wp2_with (first | ((with_reducible refine gate_callee (f:=83) rfl ?_); refine goesL_ (some 8) rfl rfl Tryd.func83 (by kernel_rfl) rfl #[.int .u32 a0] rfl (by (try simp only [zMa, zMc, zMn]); first | done | rfl | (simp only [zLd, zLt]; rfl)) ?_; (with_reducible refine (cmp_isNaN_uint32.calls a0 false _ A3.out).mono ?_); rintro e w' ⟨rfl, ⟨nd, rfl⟩⟩; refine ⟨_, rfl, ?_⟩) | ((with_reducible refine gate_callee (f:=83) rfl ?_); refine goesL_ (some 10) rfl rfl Tryd.func83 (by kernel_rfl) rfl #[.int .u32 a1] rfl (by (try simp only [zMa, zMc, zMn]); first | done | rfl | (simp only [zLd, zLt]; rfl)) ?_; (with_reducible refine (cmp_isNaN_uint32.calls a1 false _ A4.out).mono ?_); rintro e w' ⟨rfl, ⟨nd, rfl⟩⟩; refine ⟨_, rfl, ?_⟩))
    go_ret
    exact ⟨by first | rfl | (simp; done) | (simp [*]; done), by repeat (first | exact Drawn0.refl _ | apply Drawn0.step)⟩
   ·rw [if_neg c8] at H
    have c8b0 : decide (a0 < a1) = false := decide_eq_false c8
    clear c8
    by_cases c9 : a0 > a1
    ·rw [if_pos c9] at H
     have c9b0 : decide (a1 < a0) = true := decide_eq_true c9
     clear c9
     obtain rfl := zOi H
     go_enter Tryd.func72, Tryd.ntmps72
     go_wp2_with (first | ((with_reducible refine gate_callee (f:=83) rfl ?_); refine goesL_ (some 8) rfl rfl Tryd.func83 (by kernel_rfl) rfl #[.int .u32 a0] rfl (by (try simp only [zMa, zMc, zMn]); first | done | rfl | (simp only [zLd, zLt]; rfl)) ?_; (with_reducible refine (cmp_isNaN_uint32.calls a0 false _ A3.out).mono ?_); rintro e w' ⟨rfl, ⟨nd, rfl⟩⟩; refine ⟨_, rfl, ?_⟩) | ((with_reducible refine gate_callee (f:=83) rfl ?_); refine goesL_ (some 10) rfl rfl Tryd.func83 (by kernel_rfl) rfl #[.int .u32 a1] rfl (by (try simp only [zMa, zMc, zMn]); first | done | rfl | (simp only [zLd, zLt]; rfl)) ?_; (with_reducible refine (cmp_isNaN_uint32.calls a1 false _ A4.out).mono ?_); rintro e w' ⟨rfl, ⟨nd, rfl⟩⟩; refine ⟨_, rfl, ?_⟩))
     go_ret
     exact ⟨by first | rfl | (simp; done) | (simp [*]; done), by repeat (first | exact Drawn0.refl _ | apply Drawn0.step)⟩
    ·rw [if_neg c9] at H
     have c9b0 : decide (a1 < a0) = false := decide_eq_false c9
     clear c9
     obtain rfl := zOi H
     go_enter Tryd.func72, Tryd.ntmps72
     go_wp2_with (first | ((with_reducible refine gate_callee (f:=83) rfl ?_); refine goesL_ (some 8) rfl rfl Tryd.func83 (by kernel_rfl) rfl #[.int .u32 a0] rfl (by (try simp only [zMa, zMc, zMn]); first | done | rfl | (simp only [zLd, zLt]; rfl)) ?_; (with_reducible refine (cmp_isNaN_uint32.calls a0 false _ A3.out).mono ?_); rintro e w' ⟨rfl, ⟨nd, rfl⟩⟩; refine ⟨_, rfl, ?_⟩) | ((with_reducible refine gate_callee (f:=83) rfl ?_); refine goesL_ (some 10) rfl rfl Tryd.func83 (by kernel_rfl) rfl #[.int .u32 a1] rfl (by (try simp only [zMa, zMc, zMn]); first | done | rfl | (simp only [zLd, zLt]; rfl)) ?_; (with_reducible refine (cmp_isNaN_uint32.calls a1 false _ A4.out).mono ?_); rintro e w' ⟨rfl, ⟨nd, rfl⟩⟩; refine ⟨_, rfl, ?_⟩))
     go_ret
     exact ⟨by first | rfl | (simp; done) | (simp [*]; done), by repeat (first | exact Drawn0.refl _ | apply Drawn0.step)⟩



section
attribute [local go_sem] Oper.semAt_some
def cmpI (a b : Int) : Int := if a < b then -1 else if a > b then 1 else 0
def cmpTop (a b : List Int) : Nat → Int
 | 0 => 0
 | n + 1 => if a.getD n 0 = b.getD n 0 then cmpTop a b n else cmpI (a.getD n 0) (b.getD n 0)
def n_Cmp.f (l0 l1 : List Int) : Option Int := some (if cutLen l0 l0.length = cutLen l1 l1.length then cmpTop l0 l1 (cutLen l0 l0.length) else cmpI (cutLen l0 l0.length : Nat) (cutLen l1 l1.length : Nat))
theorem cmpI_int (a b : Int) : cmp_Compare_int.f a b = some (cmpI a b) := by
 unfold cmp_Compare_int.f cmp_isNaN_int.f cmpI
 simp only [bne_self_eq_false, zOb, Bool.false_eq_true, if_false]
 split
 ·rfl
 ·split <;> rfl
theorem cmpI_u32 (a b : Int) : cmp_Compare_uint32.f a b = some (cmpI a b) := by
 unfold cmp_Compare_uint32.f cmp_isNaN_uint32.f cmpI
 simp only [bne_self_eq_false, zOb, Bool.false_eq_true, if_false]
 split
 ·rfl
 ·split <;> rfl
theorem cmpTop_zero (a b : List Int) : ∀ n, (∀ i, i < n → a.getD i 0 = b.getD i 0) → cmpTop a b n = 0
 | 0, _ => rfl
 | n + 1, h => by
  unfold cmpTop
  rw [if_pos (h n (Nat.lt_succ_self n))]
  exact cmpTop_zero a b n fun i hi => h i (Nat.lt_succ_of_lt hi)
theorem cmpTop_at (a b : List Int) : ∀ n j, j < n → a.getD j 0 ≠ b.getD j 0 → (∀ i, j < i → i < n → a.getD i 0 = b.getD i 0) → cmpTop a b n = cmpI (a.getD j 0) (b.getD j 0)
 | 0, _, hj, _, _ => absurd hj (Nat.not_lt_zero _)
 | n + 1, j, hj, hne, h => by
  unfold cmpTop
  rcases Nat.lt_or_ge j n with h1 | h1
  ·rw [if_pos (h n h1 (Nat.lt_succ_self n))]
   exact cmpTop_at a b n j h1 hne fun i hi hi2 => h i hi (Nat.lt_succ_of_lt hi2)
  ·obtain rfl : j = n := by omega
   rw [if_neg hne]
theorem n_Cmp.calls (A0 : Option Addr) (c0 : Nat) (l0 : List Int) (A1 : Option Addr) (c1 : Nat) (l1 : List Int) (r : Int) (w : World) (hr0 : Kd.C (Kd.int .u32) w A0 l0.length l0) (hc0 : l0.length ≤ c0) (hr1 : Kd.C (Kd.int .u32) w A1 l1.length l1) (hc1 : l1.length ≤ c1) (h : n_Cmp.f l0 l1 = some r) :
  Calls Tryd.prog 49 #[.slice A0 l0.length c0, .slice A1 l1.length c1] w fun e w' => e = .returned (.int .i64 r) ∧ Below w.heap.size w w' := by
 have HR0 := zMk hr0
 have HC0 := zMk hc0
 have HR1 := zMk hr1
 have HC1 := zMk hc1
 have HH := zMk h
 clear hr0 hc0 hr1 hc1 h
 obtain ⟨m, hm⟩ : ∃ m, cutLen l0 l0.length = m := ⟨_, rfl⟩
 obtain ⟨n, hn⟩ : ∃ n, cutLen l1 l1.length = n := ⟨_, rfl⟩
 have kc0 : ∀ W : World, Kd.C (Kd.int .u32) W A0 l0.length l0 → Calls Tryd.prog 56 #[.slice A0 l0.length c0] W fun e w' => e = .returned (.slice A0 m c0) ∧ w' = W := fun W h => (n_cut.exact A0 c0 l0 W h HC0.out).mono (fun e w' ⟨he, hw⟩ => ⟨by rw [he, hm], hw.symm⟩)
 have kc1 : ∀ W : World, Kd.C (Kd.int .u32) W A1 l1.length l1 → Calls Tryd.prog 56 #[.slice A1 l1.length c1] W fun e w' => e = .returned (.slice A1 n c1) ∧ w' = W := fun W h => (n_cut.exact A1 c1 l1 W h HC1.out).mono (fun e w' ⟨he, hw⟩ => ⟨by rw [he, hn], hw.symm⟩)
 have K0 := zMk kc0
 have K1 := zMk kc1
 have HM := zMk hm
 have HN := zMk hn
 clear kc0 kc1 hm hn
 refine (callsIn_wide (n:=3)).1 ?_
 refine callsIn_of_wp_marks Tryd.func49 rfl trivial ?_ rfl
 refine wpIn_wide.2 ?_
 simp only [Tryd.ntmps49, List.size_toArray, zLc, zLn, Nat.reduceAdd, Nat.reduceSub, Array.replicate_succ, Array.replicate_zero, List.push_toArray, List.append_toArray, List.nil_append, List.cons_append]
 have bB := Boxed.new w 22 (.slice A1 l1.length c1)
 have bR := Boxed.new (w.alloc (.cells #[.slice A1 l1.length c1] 22)) 3 (.int .i64 0)
 rw [World.size_alloc] at bR
 have hB0 : Below w.heap.size w ((w.alloc (.cells #[.slice A1 l1.length c1] 22)).alloc (.cells #[.int .i64 0] 3)) := ((Below.refl _ w).alloc (Nat.le_refl _) _).alloc (by simp) _
 have bB := bB.alloc (.cells #[.int .i64 0] 3)
 go_wp2
 generalize ((w.alloc (.cells #[.slice A1 l1.length c1] 22)).alloc (.cells #[.int .i64 0] 3)) = W0 at bB bR hB0 ⊢
 have bB2 := bB.set (.slice A1 n c1)
 have bR2 := bR.other (B' := w.heap.size) (by omega) (.slice A1 n c1)
 have hB2 : Below w.heap.size w (W0.setCell ⟨w.heap.size, 0, none⟩ (.slice A1 n c1)) := hB0.setCell (p:=⟨w.heap.size, 0, none⟩) (Nat.le_refl _) _
 obtain ⟨W2, hW2⟩ : ∃ W2, W0.setCell ⟨w.heap.size, 0, none⟩ (.slice A1 n c1) = W2 := ⟨_, rfl⟩
 rw [hW2] at bB2 bR2 hB2
 have hR2 : (w.heap.size + 1) < W2.heap.size := bR2.lt
 have cB := bB.cell
 have fB := bB.frozen
 have cB2 := bB2.cell
 have cR2 := bR2.cell
 have fR2 := bR2.frozen
 have hml := cutLen_le l0 l0.length
 have hnl := cutLen_le l1 l1.length
 rw [HM.out] at hml
 rw [HN.out] at hnl
 have hm0 := HR0.out.2.1
 have hn0 := HR1.out.2.1
 have HR0' := HR0
 have HR1' := HR1
 have HR0 := zMk (Kd.C_below HR0.out hB0)
 have HR1 := zMk (Kd.C_below HR1.out hB0)
 go_still_tail 5, (by kernel_rfl)
 show wpStill _ _ W0.drew _ _ _
 still_call (K0.out W0.drew (zCd HR0.out))
 repeat still_step
 still_call (K1.out W0.drew (zCd HR1.out))
 repeat still_step
 refine wpStill_nil ?_
 change wpList _ _ _ _ _ W0.drew
 by_cases hmn : m = n
 ·have hz : (cmpI (m : Int) (n : Int) != 0) = false := by subst hmn; simp [cmpI]
  have hz0 : cmpI (m : Int) (n : Int) = 0 := by subst hmn; simp [cmpI]
  have HMN := zMk hmn
  clear hmn
  go_wp2_with (first | (go_at_call 70; refine (cmp_Compare_int.calls (m : Int) (n : Int) _ _ (cmpI_int _ _)).mono ?_; rintro e w' ⟨rfl, ⟨nd, rfl⟩⟩) | (go_at_call 71; refine (slices_Backward_uint32_uint32.calls _ _ _ _).mono ?_; rintro e w' ⟨rfl, rfl⟩))
  have hdb := zBn (Below.refl W2.heap.size W2) (1 + nd)
  have bB3 : Boxed (W2.drewN (1 + nd)) w.heap.size 22 (.slice A1 n c1) := (hdb.block _ bB2.lt).trans bB2
  have bR3 : Boxed (W2.drewN (1 + nd)) (w.heap.size + 1) 3 (.int .i64 0) := (hdb.block _ bR2.lt).trans bR2
  have hB3 : Below w.heap.size w (W2.drewN (1 + nd)) := zBn hB2 _
  have hs3 : (W2.drewN (1 + nd)).heap.size = W2.heap.size := by simp
  generalize W2.drewN (1 + nd) = W3 at hdb bB3 bR3 hB3 hs3 ⊢
  have hR3 : (w.heap.size + 1) < W3.heap.size := bR3.lt
  have bN := Boxed.new W3 22 (.slice A0 m c0)
  have hB3s := hB3.size
  have hW3s : (W3.alloc (.cells #[.slice A0 m c0] 22)).heap.size = W2.heap.size + 1 := by rw [World.size_alloc, hs3]
  rw [hs3] at bN hB3s hR3
  have hB4 : Below w.heap.size w (W3.alloc (.cells #[.slice A0 m c0] 22)) := hB3.alloc hB3.size _
  have hlt : (l0.take m).length = m := by rw [zLt]; omega
  have hF0 : Kd.F (Kd.int .u32) (W3.alloc (.cells #[.slice A0 m c0] 22)) (fun k => k < w.heap.size ∨ k = W2.heap.size) A0 (l0.take m).length (l0.take m) := Kd.F_mono (Kd.F_step (Kd.F_take (Kd.C_F (Kd.heap_int .u32) HR0'.out) hml) (fun k hk _ => hB4.block k hk)) (fun k hk => .inl hk)
  have hC1 : ∀ W, Below w.heap.size w W → ∀ i : Int, 0 ≤ i → i < (n : Int) → ∃ ad, A1 = some ad ∧ W.cell? (ad.add i.toNat) = some (.int .u32 (rd l1 i)) := fun W hW i h0 h1 => by
   have hc := Kd.C_below HR1'.out hW
   exact zAi hc i h0 (by omega)
  refine (wpIn_wide (n:=3)).1 ?_
  refine wpIn_rangeFunc_ownG (n:=3) rfl (by omega) (gf:=82) (lb:=#[.pointer (some ⟨W2.heap.size, 0, none⟩)]) rfl trivial (enters_of Tryd.func82 (by kernel_rfl) rfl)
   (slices_Backward_uint32_uint32.stops Fence.wide 2 trivial rfl (by omega) W2.heap.size c0 A0 (l0.take m) (by have := HC0.out; omega) (fun k => k < w.heap.size ∨ k = W2.heap.size) (.inr rfl) _ (fun k hk => by rw [hW3s]; omega) (by rw [hlt]; exact bN.cell) hF0)
   KeepOk.trans (KeepOk.turn (fun k hk => by rw [hW3s]; omega)) (Below.refl _ _) (fun _ => rfl)
   (fun pre W => ((∀ p ∈ pre, rd l1 (p.1 : Int) = rd l0 (p.1 : Int)) ∧ Boxed W w.heap.size 22 (.slice A1 n c1) ∧ Boxed W (w.heap.size + 1) 3 (.int .i64 0)) ∧ Below w.heap.size w W)
   (fun c pre W => (c = .ret ∧ ∃ ini last, pre = ini ++ [last] ∧ (∀ p ∈ ini, rd l1 (p.1 : Int) = rd l0 (p.1 : Int)) ∧ rd l0 (last.1 : Int) ≠ rd l1 (last.1 : Int) ∧ W.cell? ⟨w.heap.size + 1, 0, none⟩ = some (.int .i64 (cmpI (rd l0 (last.1 : Int)) (rd l1 (last.1 : Int))))) ∧ Below w.heap.size w W)
   (OwnFrom.and (Own.from (fun s A B row hs hg hr => ⟨hs.1, hs.2.1.kept hg (fun e => by obtain ⟨o, ho, hc⟩ := hr _ e.symm; rw [show A.heap[w.heap.size]? = _ from hs.2.1] at ho; cases ho; simp [Obj.isCells] at hc), hs.2.2.kept hg (fun e => by obtain ⟨o, ho, hc⟩ := hr _ e.symm; rw [show A.heap[w.heap.size + 1]? = _ from hs.2.2] at ho; cases ho; simp [Obj.isCells] at hc)⟩) _) (ownFrom_below (Nat.le_refl _) (by rw [hW3s]; omega)))
   (fun c => OwnFrom.and (Own.from (fun s A B row hs hg hr => by obtain ⟨hc, ini, last, e1, e2, e3, e4⟩ := hs; exact ⟨hc, ini, last, e1, e2, e3, cell_kept e4 hg hr⟩) _) (ownFrom_below (Nat.le_refl _) (by rw [hW3s]; omega)))
   ⟨⟨by simp, bB3.alloc _, bR3.alloc _⟩, hB4⟩
   (fun x => { tmps := #[.slice A0 m c0, .slice A1 l1.length c1, undef, .pointer (some ⟨w.heap.size, 0, none⟩), .pointer (some ⟨w.heap.size + 1, 0, none⟩), .int .i64 0, .int .i64 (x.1 : Int), .int .u32 (rd (l0.take m) (x.1 : Int)), .slice A0 l0.length c0, .slice A0 m c0, .slice A1 l1.length c1, .slice A1 n c1, .slice A0 m c0, .int .i64 m, .slice A1 n c1, .int .i64 n, .int .i64 0, .int .i64 0, .bool false, undef, .slice A0 m c0, .func (.func 82) #[] #[.pointer (some ⟨W2.heap.size, 0, none⟩)], .int .i64 (x.1 : Int), .int .u32 (rd (l0.take m) (x.1 : Int)), undef, undef, undef, undef, undef, undef, undef, undef, undef, undef, undef, undef], defers := [] }) ?assign ?body ?done ?stop
  case assign =>
   intro l x W K hK
   gi_wp2
   exact hK
  case body =>
   rintro l pre ⟨x, hx⟩ W ⟨⟨hp, hb, hr⟩, hB⟩ _
   rw [hlt] at hx
   have hxn : x < n := by have := HMN.out; omega
   obtain ⟨ad1, e1, hcx⟩ := hC1 W hB (x : Int) (by omega) (by omega)
   subst e1
   have hbc := hb.cell
   have hrc := hr.cell
   have hrf := hr.frozen
   have p4 : decide ((x : Int) < (n : Int)) = true := decide_eq_true (by omega)
   have hrd : rd (l0.take m) (x : Int) = rd l0 (x : Int) := by unfold rd; simp [List.getD_eq_getElem?_getD, List.getElem?_take, hx]
   simp only [hrd]
   rw [zTn] at hcx
   by_cases he : rd l0 (x : Int) = rd l1 (x : Int)
   ·have q1 : (rd l0 (x : Int) != rd l1 (x : Int)) = false := by rw [he]; simp
    clear hrd
    gi_wp2
    exact ⟨KeepsFrom.refl _ _, KeepOk.refl _ _, ⟨fun p hp' => (List.mem_append.1 hp').elim (hp p) (fun e => by rw [List.mem_singleton.1 e]; exact he.symm), hb, hr⟩, hB⟩
   ·have q1 : (rd l0 (x : Int) != rd l1 (x : Int)) = true := by simpa using he
    clear hrd
    gi_wp2_with (refine ⟨trivial, ?_⟩; gi_at_call 72; refine (CallsIn.inRound l (callsIn_wide.2 (cmp_Compare_uint32.calls (rd l0 (x : Int)) (rd l1 (x : Int)) _ _ (cmpI_u32 _ _)))).mono ?_; rintro e w' ⟨rfl, ⟨nd, rfl⟩⟩)
    refine ⟨?_, ⟨rfl, pre, _, rfl, hp, he, ?_⟩, (zBn hB _).setCell (p:=⟨w.heap.size + 1, 0, none⟩) (Nat.le_succ _) _⟩
    ·have hdb2 := zBn (Below.refl W.heap.size W) nd
     exact (KeepsOthers.trans ⟨hdb2.size, fun i o h _ => (hdb2.block i (Array.getElem?_eq_some_iff.1 h).1).trans h⟩ (KeepsOthers.setCell _ _ _)).from _
    ·exact World.cell?_setCell_same' _ _ _ (by rw [(zBn (Below.refl _ W) nd).cell (p:=⟨w.heap.size + 1, 0, none⟩) hr.lt, hrc]; rfl)
  case done =>
   rintro D ys W hD rfl ⟨⟨hp, hb, hr⟩, hB⟩ hK
   have hrc := hr.cell
   have hrf := hr.frozen
   go_wp2
   have hK' := (KeepsOthers.setCell W ⟨w.heap.size + 1, 0, none⟩ (.int .i64 0)).same D _ hK rfl
   refine ⟨by simp, .inl ⟨_, _, rfl, run_takeDeferred hK', ?_⟩⟩
   have hc5 := cell_kept (World.cell?_setCell_same' W ⟨w.heap.size + 1, 0, none⟩ (.int .i64 0) (by rw [hrc]; rfl)) (grownBy_putObj' _ D (.deferred none)) (fun r e => by cases e; exact ⟨_, hK', rfl⟩)
   have hz2 : (0 : Int) = r := by
    have h2 := HH.out
    unfold n_Cmp.f at h2
    rw [HM.out, HN.out, if_pos HMN.out] at h2
    rw [← zOi h2]
    refine (cmpTop_zero l0 l1 m fun i hi => ?_).symm
    have := hp ⟨i, by rw [hlt]; exact hi⟩ (bwd_mem _ _ _ i (by rw [hlt]; exact hi) (by omega))
    simpa [rd] using this.symm
   refine ⟨.int .i64 0, ?_, by rw [hz2], (hB.setCell (p:=⟨w.heap.size + 1, 0, none⟩) (Nat.le_succ _) _).trans (belowK_b (w:=w) (Nat.le_refl _) _ D _ _ (by rw [hW3s] at hD; omega) hK' rfl rfl)⟩
   simp [results, Tryd.f49, go_sem, hc5]
  case stop =>
   rintro D c pre W hD ⟨k, hk, rfl⟩ ⟨⟨rfl, ini, last, e1, e2, e3, hcr⟩, hB⟩ hK
   refine (wpIn_wide (n:=3)).2 ?_
   go_wp2
   refine ⟨by simp, .inl ⟨_, _, rfl, run_takeDeferred hK, ?_⟩⟩
   have hc5 := cell_kept hcr (grownBy_putObj' _ D (.deferred none)) (fun r e => by cases e; exact ⟨_, hK, rfl⟩)
   obtain ⟨k', h', rfl, rfl, hlast⟩ := bwd_last _ e1
   have hr2 : cmpI (rd l0 (last.1 : Int)) (rd l1 (last.1 : Int)) = r := by
    have h2 := HH.out
    unfold n_Cmp.f at h2
    rw [HM.out, HN.out, if_pos HMN.out] at h2
    rw [← zOi h2]
    have hl1 := last.2
    refine (cmpTop_at l0 l1 m last.1 (by omega) (by simpa [rd] using e3) fun i hi hi2 => ?_).symm
    have := e2 ⟨i, by rw [hlt]; exact hi2⟩ (bwd_mem _ _ _ i (by rw [hlt]; exact hi2) (by omega))
    simpa [rd] using this.symm
   refine ⟨.int .i64 (cmpI (rd l0 (last.1 : Int)) (rd l1 (last.1 : Int))), ?_, by rw [hr2], hB.trans (belowK_b (w:=w) (Nat.le_refl _) W D _ _ (by rw [hW3s] at hD; omega) hK rfl rfl)⟩
   simp [results, Tryd.f49, go_sem, hc5]
 ·have hz : (cmpI (m : Int) (n : Int) != 0) = true := by
   unfold cmpI
   split
   ·rfl
   ·split
    ·rfl
    ·omega
  have HMN := zMk hmn
  clear hmn
  go_wp2_with (go_at_call 70; refine (cmp_Compare_int.calls (m : Int) (n : Int) _ _ (cmpI_int _ _)).mono ?_; rintro e w' ⟨rfl, ⟨nd, rfl⟩⟩)
  have hc5 : ((W2.drewN (1 + nd)).setCell ⟨w.heap.size + 1, 0, none⟩ (.int .i64 (cmpI m n))).cell? ⟨w.heap.size + 1, 0, none⟩ = some (.int .i64 (cmpI m n)) := World.cell?_setCell_same' _ _ _ (by rw [((zBn (Below.refl _ W2) (1 + nd)).cell (p:=⟨w.heap.size + 1, 0, none⟩) hR2), cR2]; rfl)
  have hr : cmpI m n = r := by have h2 := HH.out; unfold n_Cmp.f at h2; rw [HM.out, HN.out, if_neg HMN.out] at h2; exact zOi h2
  refine ⟨.int .i64 (cmpI m n), ?_, ?_⟩
  ·simp [results, Tryd.f49, go_sem, hc5]
  ·exact ⟨by rw [hr], (zBn hB2 _).setCell (p:=⟨w.heap.size + 1, 0, none⟩) (Nat.le_succ _) _⟩

end


theorem cmpI_step {a b x y P : Int} (ha : 0 ≤ a) (ha' : a < P) (hb : 0 ≤ b) (hb' : b < P) : cmpI (a + P * x) (b + P * y) = if x = y then cmpI a b else cmpI x y := by
 unfold cmpI
 rcases Int.lt_trichotomy x y with h | h | h
 ·have h1 : P * x + P ≤ P * y := by have := Int.mul_le_mul_of_nonneg_left (show x + 1 ≤ y by omega) (show 0 ≤ P by omega); rw [Int.mul_add] at this; omega
  rw [if_pos (by omega), if_neg (by omega), if_pos h]
 ·subst h
  rw [if_pos rfl]
  by_cases h2 : a < b
  ·rw [if_pos (by omega), if_pos h2]
  ·rw [if_neg (by omega), if_neg h2]
   by_cases h3 : a > b
   ·rw [if_pos (by omega), if_pos h3]
   ·rw [if_neg (by omega), if_neg h3]
 ·have h1 : P * y + P ≤ P * x := by have := Int.mul_le_mul_of_nonneg_left (show y + 1 ≤ x by omega) (show 0 ≤ P by omega); rw [Int.mul_add] at this; omega
  rw [if_neg (by omega), if_pos (by omega), if_neg (by omega), if_neg (by omega), if_pos h]
theorem val_take_succ (l : List Int) (n : Nat) (h : n < l.length) : val (l.take (n + 1)) = val (l.take n) + 4294967296 ^ n * l.getD n 0 := by
 rw [List.take_succ_eq_append_getElem h, val_append, zLt, Nat.min_eq_left (by omega), getD_lt _ h]
 simp [val]
theorem cmpTop_val {a b : List Int} (ha : Limbs a) (hb : Limbs b) : ∀ n, n ≤ a.length → n ≤ b.length → cmpTop a b n = cmpI (val (a.take n)) (val (b.take n))
 | 0, _, _ => by simp [cmpTop, val, cmpI]
 | n + 1, h1, h2 => by
  have hla := val_lt (ha.take n)
  have hlb := val_lt (hb.take n)
  rw [zLt, Nat.min_eq_left (by omega)] at hla hlb
  rw [val_take_succ a n (by omega), val_take_succ b n (by omega), cmpI_step (val_nonneg (ha.take n)) hla (val_nonneg (hb.take n)) hlb, ← cmpTop_val ha hb n (by omega) (by omega)]
  simp only [cmpTop]
  (first | rfl | (unfold cmpI; split <;> split <;> simp_all) | skip)
theorem val_ge {l : List Int} (h : Limbs l) (ht : Trim l) (hn : l ≠ []) : (4294967296 : Int) ^ (l.length - 1) ≤ val l := by
 obtain ⟨n, hn'⟩ : ∃ n, l.length = n + 1 := ⟨l.length - 1, by have : l.length ≠ 0 := fun h0 => hn (List.eq_nil_of_length_eq_zero h0); omega⟩
 have h1 := val_take_succ l n (by omega)
 rw [← hn', List.take_length] at h1
 have h2 : l.getD n 0 ≠ 0 := by
  rcases ht with ht | ht
  ·exact absurd ht hn
  ·rw [hn'] at ht; exact ht
 have h3 := h.getD n
 have h4 := val_nonneg (h.take n)
 have h5 : (4294967296 : Int) ^ n * 1 ≤ 4294967296 ^ n * l.getD n 0 := Int.mul_le_mul_of_nonneg_left (by omega) (Int.le_of_lt (Int.pow_pos (by decide)))
 rw [h1, show l.length - 1 = n by omega]
 omega
theorem pow_up {m n : Nat} (h : m ≤ n) : (4294967296 : Int) ^ m ≤ 4294967296 ^ n := by
 obtain ⟨d, rfl⟩ := Nat.exists_eq_add_of_le h
 rw [Int.pow_add]
 have h1 : (0 : Int) < 4294967296 ^ d := Int.pow_pos (by decide)
 have h2 : (0 : Int) < 4294967296 ^ m := Int.pow_pos (by decide)
 have := Int.mul_le_mul_of_nonneg_left (show (1 : Int) ≤ 4294967296 ^ d by omega) (Int.le_of_lt h2)
 rw [Int.mul_one] at this
 exact this
theorem cmp_f (a b : List Int) (ha : Limbs a) (hb : Limbs b) : n_Cmp.f a b = some (cmpI (val a) (val b)) := by
 unfold n_Cmp.f
 rw [← cut_len a, ← cut_len b]
 congr 1
 have key : ∀ {a b : List Int}, Limbs a → Limbs b → (cut a).length < (cut b).length → val a < val b := by
  intro a b ha hb h
  have h1 := val_lt (cut_limbs ha)
  have h2 := val_ge (cut_limbs hb) (cut_trim b) (by intro h0; rw [h0] at h; exact absurd h (by simp))
  have h3 : (4294967296 : Int) ^ (cut a).length ≤ 4294967296 ^ ((cut b).length - 1) := pow_up (by omega)
  rw [cut_val] at h1 h2
  omega
 split
 ·rename_i h
  rw [cmpTop_val ha hb _ (cut_length a) (by rw [h]; exact cut_length b)]
  rw [show a.take (cut a).length = cut a by rw [cut_len]; rfl, h, show b.take (cut b).length = cut b by rw [cut_len]; rfl, cut_val, cut_val]
 ·rename_i h
  rcases Nat.lt_or_gt_of_ne h with h | h
  ·have := key ha hb h
   unfold cmpI
   rw [if_pos (by omega), if_pos this]
  ·have := key hb ha h
   unfold cmpI
   rw [if_neg (by omega), if_pos (by omega), if_neg (by omega), if_pos (by omega)]
theorem wraps_u32 (n : Int) (h₀ : 0 ≤ n) (h₁ : n < 2 ^ 32) : IntKind.u32.wrap n = n := by show n % 4294967296 = n; omega
theorem wraps_u64 (n : Int) (h₀ : 0 ≤ n) (h₁ : n < 2 ^ 64) : IntKind.u64.wrap n = n := by show n % 18446744073709551616 = n; omega

def w1_Light.l0 : Nat → List (List Int) → Int → Option (Bool)
 | 0, _, _ => none
 | k + 1, x0, x3 => if x3 < (x0.length : Int) then (if 0 ≤ x3 then (if ((rd_L1 x0 x3).length : Int) > 12 then (some false) else (w1_Light.l0 k x0 (wrap64 (x3 + 1)))) else (none)) else (some true)
def w1_Light.f (k : Nat) (l0 : List (List Int)) : Option (Bool) := w1_Light.l0 k l0 0
theorem w1_Light.calls (k : Nat) (A0 : Option Addr) (c0 : Nat) (l0 : List (List Int)) (r : Bool) (w : World) (hr0 : Kd.C (Kd.slice 58 (Kd.int .u32)) w A0 l0.length l0) (hc0 : l0.length ≤ c0) (h : w1_Light.f k l0 = some r) :
  Calls Tryd.prog 10 #[.slice A0 l0.length c0] w fun e w' => e = .returned (.bool r) ∧ Drawn0 w w' := by
 have HR0 := zMk hr0
 have HC0 := zMk hc0
 clear hr0 hc0
 have H : (w1_Light.l0 k l0 0) = some r := h
 clear h
 have H' := zMk H
 clear H
 go_enter Tryd.func10, Tryd.ntmps10
 go_wp2
 go_loopg [3] k (fun kq v3 w' => ∃ (x3_1 : Int), v3 = .int .i64 x3_1 ∧ Aside0 (w1_Light.l0 kq l0 x3_1 = some r) ∧ Aside0 (kq ≤ k) ∧ Drawn0 w w')
 case atStart => exact ⟨(0), (by first | rfl | (simp; done) | (simp [*]; done)), H', ⟨Nat.le_refl _⟩, by repeat (first | exact Drawn0.refl _ | apply Drawn0.step)⟩
 clear H'
 obtain ⟨x3_1, rfl, HA, HK1, ⟨m1, rfl⟩⟩ := hrel
 rcases gk with _ | k1
 ·exact absurd HA.out (by simp [w1_Light.l0])
 have H := HA.out
 clear HA
 simp only [w1_Light.l0] at H
 by_cases c2 : x3_1 < (l0.length : Int)
 ·rw [if_pos c2] at H
  have c2b0 : decide (x3_1 < (l0.length : Int)) = true := decide_eq_true c2
  clear c2
  by_cases c3 : 0 ≤ x3_1
  rotate_left
  ·rw [if_neg c3] at H; exact absurd H (by simp)
  rw [if_pos c3] at H
  have c3b0 : decide (0 ≤ x3_1) = true := decide_eq_true c3
  clear c3
  by_cases c4 : ((rd_L1 l0 x3_1).length : Int) > 12
  ·rw [if_pos c4] at H
   have c4b0 : decide (12 < ((rd_L1 l0 x3_1).length : Int)) = true := decide_eq_true c4
   have c4b1 : decide (12 < (rd_L1 l0 x3_1).length) = true := decide_eq_true (by omega)
   clear c4
   obtain rfl := zOi H
   have p492 : 0 ≤ (x3_1 : Int) := of_decide_eq_true (by assumption)
   have q492 : x3_1 < (l0.length : Int) := of_decide_eq_true (by assumption)
   obtain ⟨ad492, A492_0, c492_0, e492, hx492_0, hl492_0, hi492_0⟩ := at_L1 HR0.out x3_1 p492 q492
   cases e492
   have HR492_0 := zMk hi492_0
   have HC492_0 := zMk hl492_0
   clear hi492_0 hl492_0
   replace p492 := eq_true p492
   replace q492 := eq_true q492
   go_wp2
   go_ret
   exact ⟨by first | rfl | (simp; done) | (simp [*]; done), by repeat (first | exact Drawn0.refl _ | apply Drawn0.step)⟩
  ·rw [if_neg c4] at H
   have c4b0 : decide (12 < ((rd_L1 l0 x3_1).length : Int)) = false := decide_eq_false c4
   have c4b1 : decide (12 < (rd_L1 l0 x3_1).length) = false := decide_eq_false (by omega)
   clear c4
   have H' := zMk H
   clear H
   have p492 : 0 ≤ (x3_1 : Int) := of_decide_eq_true (by assumption)
   have q492 : x3_1 < (l0.length : Int) := of_decide_eq_true (by assumption)
   obtain ⟨ad492, A492_0, c492_0, e492, hx492_0, hl492_0, hi492_0⟩ := at_L1 HR0.out x3_1 p492 q492
   cases e492
   have HR492_0 := zMk hi492_0
   have HC492_0 := zMk hl492_0
   clear hi492_0 hl492_0
   replace p492 := eq_true p492
   replace q492 := eq_true q492
   go_wp2
   go_roundg k1
   case measure => have := HK1.out; omega
   case rel => exact ⟨(wrap64 (x3_1 + 1)), (by first | rfl | (simp; done) | (simp [*]; done)), H', ⟨by have := HK1.out; omega⟩, by repeat (first | exact Drawn0.refl _ | apply Drawn0.step)⟩
 ·rw [if_neg c2] at H
  have c2b0 : decide (x3_1 < (l0.length : Int)) = false := decide_eq_false c2
  clear c2
  obtain rfl := zOi H
  go_wp2
  go_ret
  exact ⟨by first | rfl | (simp; done) | (simp [*]; done), by repeat (first | exact Drawn0.refl _ | apply Drawn0.step)⟩

theorem light2 (a b : List Int) (ha : a.length ≤ maxLen) (hb : b.length ≤ maxLen) (k : Nat) (hk : 3 ≤ k) : w1_Light.f k [a, b] = some (decide (a.length ≤ 12 ∧ b.length ≤ 12)) := by
  obtain ⟨k, rfl⟩ : ∃ d, k = d + 3 := ⟨k - 3, by omega⟩
  unfold w1_Light.f
  rw [w1_Light.l0, if_pos (by simp), if_pos (by omega), show rd_L1 [a, b] 0 = a from rfl]
  by_cases h1 : (a.length : Int) > 12
  · rw [if_pos h1, decide_eq_false (by omega)]
  · rw [if_neg h1, show wrap64 (0 + 1) = 1 from (by unfold wrap64; omega), w1_Light.l0, if_pos (by simp), if_pos (by omega), show rd_L1 [a, b] 1 = b from rfl]
    by_cases h2 : (b.length : Int) > 12
    · rw [if_pos h2, decide_eq_false (by omega)]
    · rw [if_neg h2, show wrap64 (1 + 1) = 2 from (by unfold wrap64; omega), w1_Light.l0, if_neg (by simp), decide_eq_true (by omega)]

def bits_Len32.f (a0 : Int) : Option (Int) := if a0 ≥ 65536 then (if (a0 / 65536) ≥ 256 then (if 0 ≤ (((a0 / 65536) / 256) % 256) then (if (((a0 / 65536) / 256) % 256) < 256 then (some (wrap64 ((16 + 8) + (wrap64 (bt (⟨#[0, 1, 2, 2, 3, 3, 3, 3, 4, 4, 4, 4, 4, 4, 4, 4, 5, 5, 5, 5, 5, 5, 5, 5, 5, 5, 5, 5, 5, 5, 5, 5, 6, 6, 6, 6, 6, 6, 6, 6, 6, 6, 6, 6, 6, 6, 6, 6, 6, 6, 6, 6, 6, 6, 6, 6, 6, 6, 6, 6, 6, 6, 6, 6, 7, 7, 7, 7, 7, 7, 7, 7, 7, 7, 7, 7, 7, 7, 7, 7, 7, 7, 7, 7, 7, 7, 7, 7, 7, 7, 7, 7, 7, 7, 7, 7, 7, 7, 7, 7, 7, 7, 7, 7, 7, 7, 7, 7, 7, 7, 7, 7, 7, 7, 7, 7, 7, 7, 7, 7, 7, 7, 7, 7, 7, 7, 7, 7, 8, 8, 8, 8, 8, 8, 8, 8, 8, 8, 8, 8, 8, 8, 8, 8, 8, 8, 8, 8, 8, 8, 8, 8, 8, 8, 8, 8, 8, 8, 8, 8, 8, 8, 8, 8, 8, 8, 8, 8, 8, 8, 8, 8, 8, 8, 8, 8, 8, 8, 8, 8, 8, 8, 8, 8, 8, 8, 8, 8, 8, 8, 8, 8, 8, 8, 8, 8, 8, 8, 8, 8, 8, 8, 8, 8, 8, 8, 8, 8, 8, 8, 8, 8, 8, 8, 8, 8, 8, 8, 8, 8, 8, 8, 8, 8, 8, 8, 8, 8, 8, 8, 8, 8, 8, 8, 8, 8, 8, 8, 8, 8, 8, 8, 8, 8, 8, 8, 8, 8, 8, 8, 8, 8, 8, 8, 8, 8]⟩ : ByteArray) (((a0 / 65536) / 256) % 256)))))) else (none)) else (none)) else (if 0 ≤ ((a0 / 65536) % 256) then (if ((a0 / 65536) % 256) < 256 then (some (wrap64 (16 + (wrap64 (bt (⟨#[0, 1, 2, 2, 3, 3, 3, 3, 4, 4, 4, 4, 4, 4, 4, 4, 5, 5, 5, 5, 5, 5, 5, 5, 5, 5, 5, 5, 5, 5, 5, 5, 6, 6, 6, 6, 6, 6, 6, 6, 6, 6, 6, 6, 6, 6, 6, 6, 6, 6, 6, 6, 6, 6, 6, 6, 6, 6, 6, 6, 6, 6, 6, 6, 7, 7, 7, 7, 7, 7, 7, 7, 7, 7, 7, 7, 7, 7, 7, 7, 7, 7, 7, 7, 7, 7, 7, 7, 7, 7, 7, 7, 7, 7, 7, 7, 7, 7, 7, 7, 7, 7, 7, 7, 7, 7, 7, 7, 7, 7, 7, 7, 7, 7, 7, 7, 7, 7, 7, 7, 7, 7, 7, 7, 7, 7, 7, 7, 8, 8, 8, 8, 8, 8, 8, 8, 8, 8, 8, 8, 8, 8, 8, 8, 8, 8, 8, 8, 8, 8, 8, 8, 8, 8, 8, 8, 8, 8, 8, 8, 8, 8, 8, 8, 8, 8, 8, 8, 8, 8, 8, 8, 8, 8, 8, 8, 8, 8, 8, 8, 8, 8, 8, 8, 8, 8, 8, 8, 8, 8, 8, 8, 8, 8, 8, 8, 8, 8, 8, 8, 8, 8, 8, 8, 8, 8, 8, 8, 8, 8, 8, 8, 8, 8, 8, 8, 8, 8, 8, 8, 8, 8, 8, 8, 8, 8, 8, 8, 8, 8, 8, 8, 8, 8, 8, 8, 8, 8, 8, 8, 8, 8, 8, 8, 8, 8, 8, 8, 8, 8, 8, 8, 8, 8, 8, 8]⟩ : ByteArray) ((a0 / 65536) % 256)))))) else (none)) else (none))) else (if a0 ≥ 256 then (if 0 ≤ ((a0 / 256) % 256) then (if ((a0 / 256) % 256) < 256 then (some (wrap64 ((0 + 8) + (wrap64 (bt (⟨#[0, 1, 2, 2, 3, 3, 3, 3, 4, 4, 4, 4, 4, 4, 4, 4, 5, 5, 5, 5, 5, 5, 5, 5, 5, 5, 5, 5, 5, 5, 5, 5, 6, 6, 6, 6, 6, 6, 6, 6, 6, 6, 6, 6, 6, 6, 6, 6, 6, 6, 6, 6, 6, 6, 6, 6, 6, 6, 6, 6, 6, 6, 6, 6, 7, 7, 7, 7, 7, 7, 7, 7, 7, 7, 7, 7, 7, 7, 7, 7, 7, 7, 7, 7, 7, 7, 7, 7, 7, 7, 7, 7, 7, 7, 7, 7, 7, 7, 7, 7, 7, 7, 7, 7, 7, 7, 7, 7, 7, 7, 7, 7, 7, 7, 7, 7, 7, 7, 7, 7, 7, 7, 7, 7, 7, 7, 7, 7, 8, 8, 8, 8, 8, 8, 8, 8, 8, 8, 8, 8, 8, 8, 8, 8, 8, 8, 8, 8, 8, 8, 8, 8, 8, 8, 8, 8, 8, 8, 8, 8, 8, 8, 8, 8, 8, 8, 8, 8, 8, 8, 8, 8, 8, 8, 8, 8, 8, 8, 8, 8, 8, 8, 8, 8, 8, 8, 8, 8, 8, 8, 8, 8, 8, 8, 8, 8, 8, 8, 8, 8, 8, 8, 8, 8, 8, 8, 8, 8, 8, 8, 8, 8, 8, 8, 8, 8, 8, 8, 8, 8, 8, 8, 8, 8, 8, 8, 8, 8, 8, 8, 8, 8, 8, 8, 8, 8, 8, 8, 8, 8, 8, 8, 8, 8, 8, 8, 8, 8, 8, 8, 8, 8, 8, 8, 8, 8]⟩ : ByteArray) ((a0 / 256) % 256)))))) else (none)) else (none)) else (if 0 ≤ ((a0) % 256) then (if ((a0) % 256) < 256 then (some (wrap64 (0 + (wrap64 (bt (⟨#[0, 1, 2, 2, 3, 3, 3, 3, 4, 4, 4, 4, 4, 4, 4, 4, 5, 5, 5, 5, 5, 5, 5, 5, 5, 5, 5, 5, 5, 5, 5, 5, 6, 6, 6, 6, 6, 6, 6, 6, 6, 6, 6, 6, 6, 6, 6, 6, 6, 6, 6, 6, 6, 6, 6, 6, 6, 6, 6, 6, 6, 6, 6, 6, 7, 7, 7, 7, 7, 7, 7, 7, 7, 7, 7, 7, 7, 7, 7, 7, 7, 7, 7, 7, 7, 7, 7, 7, 7, 7, 7, 7, 7, 7, 7, 7, 7, 7, 7, 7, 7, 7, 7, 7, 7, 7, 7, 7, 7, 7, 7, 7, 7, 7, 7, 7, 7, 7, 7, 7, 7, 7, 7, 7, 7, 7, 7, 7, 8, 8, 8, 8, 8, 8, 8, 8, 8, 8, 8, 8, 8, 8, 8, 8, 8, 8, 8, 8, 8, 8, 8, 8, 8, 8, 8, 8, 8, 8, 8, 8, 8, 8, 8, 8, 8, 8, 8, 8, 8, 8, 8, 8, 8, 8, 8, 8, 8, 8, 8, 8, 8, 8, 8, 8, 8, 8, 8, 8, 8, 8, 8, 8, 8, 8, 8, 8, 8, 8, 8, 8, 8, 8, 8, 8, 8, 8, 8, 8, 8, 8, 8, 8, 8, 8, 8, 8, 8, 8, 8, 8, 8, 8, 8, 8, 8, 8, 8, 8, 8, 8, 8, 8, 8, 8, 8, 8, 8, 8, 8, 8, 8, 8, 8, 8, 8, 8, 8, 8, 8, 8, 8, 8, 8, 8, 8, 8]⟩ : ByteArray) ((a0) % 256)))))) else (none)) else (none)))
theorem bits_Len32.calls (a0 : Int) (r : Int) (w : World) (h : bits_Len32.f a0 = some r) :
  Calls Tryd.prog 79 #[.int .u32 a0] w fun e w' => e = .returned (.int .i64 r) ∧ Drawn0 w w' := by
 have H : (if a0 ≥ 65536 then (if (a0 / 65536) ≥ 256 then (if 0 ≤ (((a0 / 65536) / 256) % 256) then (if (((a0 / 65536) / 256) % 256) < 256 then (some (wrap64 ((16 + 8) + (wrap64 (bt (⟨#[0, 1, 2, 2, 3, 3, 3, 3, 4, 4, 4, 4, 4, 4, 4, 4, 5, 5, 5, 5, 5, 5, 5, 5, 5, 5, 5, 5, 5, 5, 5, 5, 6, 6, 6, 6, 6, 6, 6, 6, 6, 6, 6, 6, 6, 6, 6, 6, 6, 6, 6, 6, 6, 6, 6, 6, 6, 6, 6, 6, 6, 6, 6, 6, 7, 7, 7, 7, 7, 7, 7, 7, 7, 7, 7, 7, 7, 7, 7, 7, 7, 7, 7, 7, 7, 7, 7, 7, 7, 7, 7, 7, 7, 7, 7, 7, 7, 7, 7, 7, 7, 7, 7, 7, 7, 7, 7, 7, 7, 7, 7, 7, 7, 7, 7, 7, 7, 7, 7, 7, 7, 7, 7, 7, 7, 7, 7, 7, 8, 8, 8, 8, 8, 8, 8, 8, 8, 8, 8, 8, 8, 8, 8, 8, 8, 8, 8, 8, 8, 8, 8, 8, 8, 8, 8, 8, 8, 8, 8, 8, 8, 8, 8, 8, 8, 8, 8, 8, 8, 8, 8, 8, 8, 8, 8, 8, 8, 8, 8, 8, 8, 8, 8, 8, 8, 8, 8, 8, 8, 8, 8, 8, 8, 8, 8, 8, 8, 8, 8, 8, 8, 8, 8, 8, 8, 8, 8, 8, 8, 8, 8, 8, 8, 8, 8, 8, 8, 8, 8, 8, 8, 8, 8, 8, 8, 8, 8, 8, 8, 8, 8, 8, 8, 8, 8, 8, 8, 8, 8, 8, 8, 8, 8, 8, 8, 8, 8, 8, 8, 8, 8, 8, 8, 8, 8, 8]⟩ : ByteArray) (((a0 / 65536) / 256) % 256)))))) else (none)) else (none)) else (if 0 ≤ ((a0 / 65536) % 256) then (if ((a0 / 65536) % 256) < 256 then (some (wrap64 (16 + (wrap64 (bt (⟨#[0, 1, 2, 2, 3, 3, 3, 3, 4, 4, 4, 4, 4, 4, 4, 4, 5, 5, 5, 5, 5, 5, 5, 5, 5, 5, 5, 5, 5, 5, 5, 5, 6, 6, 6, 6, 6, 6, 6, 6, 6, 6, 6, 6, 6, 6, 6, 6, 6, 6, 6, 6, 6, 6, 6, 6, 6, 6, 6, 6, 6, 6, 6, 6, 7, 7, 7, 7, 7, 7, 7, 7, 7, 7, 7, 7, 7, 7, 7, 7, 7, 7, 7, 7, 7, 7, 7, 7, 7, 7, 7, 7, 7, 7, 7, 7, 7, 7, 7, 7, 7, 7, 7, 7, 7, 7, 7, 7, 7, 7, 7, 7, 7, 7, 7, 7, 7, 7, 7, 7, 7, 7, 7, 7, 7, 7, 7, 7, 8, 8, 8, 8, 8, 8, 8, 8, 8, 8, 8, 8, 8, 8, 8, 8, 8, 8, 8, 8, 8, 8, 8, 8, 8, 8, 8, 8, 8, 8, 8, 8, 8, 8, 8, 8, 8, 8, 8, 8, 8, 8, 8, 8, 8, 8, 8, 8, 8, 8, 8, 8, 8, 8, 8, 8, 8, 8, 8, 8, 8, 8, 8, 8, 8, 8, 8, 8, 8, 8, 8, 8, 8, 8, 8, 8, 8, 8, 8, 8, 8, 8, 8, 8, 8, 8, 8, 8, 8, 8, 8, 8, 8, 8, 8, 8, 8, 8, 8, 8, 8, 8, 8, 8, 8, 8, 8, 8, 8, 8, 8, 8, 8, 8, 8, 8, 8, 8, 8, 8, 8, 8, 8, 8, 8, 8, 8, 8]⟩ : ByteArray) ((a0 / 65536) % 256)))))) else (none)) else (none))) else (if a0 ≥ 256 then (if 0 ≤ ((a0 / 256) % 256) then (if ((a0 / 256) % 256) < 256 then (some (wrap64 ((0 + 8) + (wrap64 (bt (⟨#[0, 1, 2, 2, 3, 3, 3, 3, 4, 4, 4, 4, 4, 4, 4, 4, 5, 5, 5, 5, 5, 5, 5, 5, 5, 5, 5, 5, 5, 5, 5, 5, 6, 6, 6, 6, 6, 6, 6, 6, 6, 6, 6, 6, 6, 6, 6, 6, 6, 6, 6, 6, 6, 6, 6, 6, 6, 6, 6, 6, 6, 6, 6, 6, 7, 7, 7, 7, 7, 7, 7, 7, 7, 7, 7, 7, 7, 7, 7, 7, 7, 7, 7, 7, 7, 7, 7, 7, 7, 7, 7, 7, 7, 7, 7, 7, 7, 7, 7, 7, 7, 7, 7, 7, 7, 7, 7, 7, 7, 7, 7, 7, 7, 7, 7, 7, 7, 7, 7, 7, 7, 7, 7, 7, 7, 7, 7, 7, 8, 8, 8, 8, 8, 8, 8, 8, 8, 8, 8, 8, 8, 8, 8, 8, 8, 8, 8, 8, 8, 8, 8, 8, 8, 8, 8, 8, 8, 8, 8, 8, 8, 8, 8, 8, 8, 8, 8, 8, 8, 8, 8, 8, 8, 8, 8, 8, 8, 8, 8, 8, 8, 8, 8, 8, 8, 8, 8, 8, 8, 8, 8, 8, 8, 8, 8, 8, 8, 8, 8, 8, 8, 8, 8, 8, 8, 8, 8, 8, 8, 8, 8, 8, 8, 8, 8, 8, 8, 8, 8, 8, 8, 8, 8, 8, 8, 8, 8, 8, 8, 8, 8, 8, 8, 8, 8, 8, 8, 8, 8, 8, 8, 8, 8, 8, 8, 8, 8, 8, 8, 8, 8, 8, 8, 8, 8, 8]⟩ : ByteArray) ((a0 / 256) % 256)))))) else (none)) else (none)) else (if 0 ≤ ((a0) % 256) then (if ((a0) % 256) < 256 then (some (wrap64 (0 + (wrap64 (bt (⟨#[0, 1, 2, 2, 3, 3, 3, 3, 4, 4, 4, 4, 4, 4, 4, 4, 5, 5, 5, 5, 5, 5, 5, 5, 5, 5, 5, 5, 5, 5, 5, 5, 6, 6, 6, 6, 6, 6, 6, 6, 6, 6, 6, 6, 6, 6, 6, 6, 6, 6, 6, 6, 6, 6, 6, 6, 6, 6, 6, 6, 6, 6, 6, 6, 7, 7, 7, 7, 7, 7, 7, 7, 7, 7, 7, 7, 7, 7, 7, 7, 7, 7, 7, 7, 7, 7, 7, 7, 7, 7, 7, 7, 7, 7, 7, 7, 7, 7, 7, 7, 7, 7, 7, 7, 7, 7, 7, 7, 7, 7, 7, 7, 7, 7, 7, 7, 7, 7, 7, 7, 7, 7, 7, 7, 7, 7, 7, 7, 8, 8, 8, 8, 8, 8, 8, 8, 8, 8, 8, 8, 8, 8, 8, 8, 8, 8, 8, 8, 8, 8, 8, 8, 8, 8, 8, 8, 8, 8, 8, 8, 8, 8, 8, 8, 8, 8, 8, 8, 8, 8, 8, 8, 8, 8, 8, 8, 8, 8, 8, 8, 8, 8, 8, 8, 8, 8, 8, 8, 8, 8, 8, 8, 8, 8, 8, 8, 8, 8, 8, 8, 8, 8, 8, 8, 8, 8, 8, 8, 8, 8, 8, 8, 8, 8, 8, 8, 8, 8, 8, 8, 8, 8, 8, 8, 8, 8, 8, 8, 8, 8, 8, 8, 8, 8, 8, 8, 8, 8, 8, 8, 8, 8, 8, 8, 8, 8, 8, 8, 8, 8, 8, 8, 8, 8, 8, 8]⟩ : ByteArray) ((a0) % 256)))))) else (none)) else (none)))) = some r := h
 clear h
 by_cases c2 : a0 ≥ 65536
 ·rw [if_pos c2] at H
  have c2b0 : decide (65536 ≤ a0) = true := decide_eq_true c2
  clear c2
  by_cases c3 : (a0 / 65536) ≥ 256
  ·rw [if_pos c3] at H
   have c3b0 : decide (256 ≤ (a0 / 65536)) = true := decide_eq_true c3
   clear c3
   obtain ⟨ji4, hji4⟩ : ∃ j_ : Int, (((a0 / 65536) / 256) % 256) = j_ := ⟨_, rfl⟩
   replace H : (if 0 ≤ (ji4) then (if (ji4) < 256 then (some (wrap64 ((16 + 8) + (wrap64 (bt (⟨#[0, 1, 2, 2, 3, 3, 3, 3, 4, 4, 4, 4, 4, 4, 4, 4, 5, 5, 5, 5, 5, 5, 5, 5, 5, 5, 5, 5, 5, 5, 5, 5, 6, 6, 6, 6, 6, 6, 6, 6, 6, 6, 6, 6, 6, 6, 6, 6, 6, 6, 6, 6, 6, 6, 6, 6, 6, 6, 6, 6, 6, 6, 6, 6, 7, 7, 7, 7, 7, 7, 7, 7, 7, 7, 7, 7, 7, 7, 7, 7, 7, 7, 7, 7, 7, 7, 7, 7, 7, 7, 7, 7, 7, 7, 7, 7, 7, 7, 7, 7, 7, 7, 7, 7, 7, 7, 7, 7, 7, 7, 7, 7, 7, 7, 7, 7, 7, 7, 7, 7, 7, 7, 7, 7, 7, 7, 7, 7, 8, 8, 8, 8, 8, 8, 8, 8, 8, 8, 8, 8, 8, 8, 8, 8, 8, 8, 8, 8, 8, 8, 8, 8, 8, 8, 8, 8, 8, 8, 8, 8, 8, 8, 8, 8, 8, 8, 8, 8, 8, 8, 8, 8, 8, 8, 8, 8, 8, 8, 8, 8, 8, 8, 8, 8, 8, 8, 8, 8, 8, 8, 8, 8, 8, 8, 8, 8, 8, 8, 8, 8, 8, 8, 8, 8, 8, 8, 8, 8, 8, 8, 8, 8, 8, 8, 8, 8, 8, 8, 8, 8, 8, 8, 8, 8, 8, 8, 8, 8, 8, 8, 8, 8, 8, 8, 8, 8, 8, 8, 8, 8, 8, 8, 8, 8, 8, 8, 8, 8, 8, 8, 8, 8, 8, 8, 8, 8]⟩ : ByteArray) (ji4)))))) else (none)) else (none)) = some r := by first | (rw [hji4] at H; exact H) | (simp only [hji4] at H ⊢; exact H)
   by_cases c5 : 0 ≤ (ji4)
   rotate_left
   ·rw [if_neg c5] at H; exact absurd H (by simp)
   rw [if_pos c5] at H
   have c5b0 : decide (0 ≤ (ji4)) = true := decide_eq_true c5
   clear c5
   by_cases c6 : (ji4) < 256
   rotate_left
   ·rw [if_neg c6] at H; exact absurd H (by simp)
   rw [if_pos c6] at H
   have c6b0 : decide ((ji4) < 256) = true := decide_eq_true c6
   clear c6
   obtain rfl := zOi H
   have p7 : 0 ≤ ((ji4) : Int) := of_decide_eq_true (by assumption)
   have q7 : (ji4) < (256 : Int) := of_decide_eq_true (by assumption)
   have hx7 := bt_at (⟨#[0, 1, 2, 2, 3, 3, 3, 3, 4, 4, 4, 4, 4, 4, 4, 4, 5, 5, 5, 5, 5, 5, 5, 5, 5, 5, 5, 5, 5, 5, 5, 5, 6, 6, 6, 6, 6, 6, 6, 6, 6, 6, 6, 6, 6, 6, 6, 6, 6, 6, 6, 6, 6, 6, 6, 6, 6, 6, 6, 6, 6, 6, 6, 6, 7, 7, 7, 7, 7, 7, 7, 7, 7, 7, 7, 7, 7, 7, 7, 7, 7, 7, 7, 7, 7, 7, 7, 7, 7, 7, 7, 7, 7, 7, 7, 7, 7, 7, 7, 7, 7, 7, 7, 7, 7, 7, 7, 7, 7, 7, 7, 7, 7, 7, 7, 7, 7, 7, 7, 7, 7, 7, 7, 7, 7, 7, 7, 7, 8, 8, 8, 8, 8, 8, 8, 8, 8, 8, 8, 8, 8, 8, 8, 8, 8, 8, 8, 8, 8, 8, 8, 8, 8, 8, 8, 8, 8, 8, 8, 8, 8, 8, 8, 8, 8, 8, 8, 8, 8, 8, 8, 8, 8, 8, 8, 8, 8, 8, 8, 8, 8, 8, 8, 8, 8, 8, 8, 8, 8, 8, 8, 8, 8, 8, 8, 8, 8, 8, 8, 8, 8, 8, 8, 8, 8, 8, 8, 8, 8, 8, 8, 8, 8, 8, 8, 8, 8, 8, 8, 8, 8, 8, 8, 8, 8, 8, 8, 8, 8, 8, 8, 8, 8, 8, 8, 8, 8, 8, 8, 8, 8, 8, 8, 8, 8, 8, 8, 8, 8, 8, 8, 8, 8, 8, 8, 8]⟩ : ByteArray) (ji4)
   replace p7 := eq_true p7
   replace q7 := eq_true q7
   go_enter Tryd.func79, Tryd.ntmps79
   go_wp2
   go_ret
   exact ⟨by first | rfl | (simp; done) | (simp only [← hji4] <;> (first | rfl | simp)) | (simp [*]; done), by repeat (first | exact Drawn0.refl _ | apply Drawn0.step)⟩
  ·rw [if_neg c3] at H
   have c3b0 : decide (256 ≤ (a0 / 65536)) = false := decide_eq_false c3
   clear c3
   obtain ⟨ji8, hji8⟩ : ∃ j_ : Int, ((a0 / 65536) % 256) = j_ := ⟨_, rfl⟩
   replace H : (if 0 ≤ (ji8) then (if (ji8) < 256 then (some (wrap64 (16 + (wrap64 (bt (⟨#[0, 1, 2, 2, 3, 3, 3, 3, 4, 4, 4, 4, 4, 4, 4, 4, 5, 5, 5, 5, 5, 5, 5, 5, 5, 5, 5, 5, 5, 5, 5, 5, 6, 6, 6, 6, 6, 6, 6, 6, 6, 6, 6, 6, 6, 6, 6, 6, 6, 6, 6, 6, 6, 6, 6, 6, 6, 6, 6, 6, 6, 6, 6, 6, 7, 7, 7, 7, 7, 7, 7, 7, 7, 7, 7, 7, 7, 7, 7, 7, 7, 7, 7, 7, 7, 7, 7, 7, 7, 7, 7, 7, 7, 7, 7, 7, 7, 7, 7, 7, 7, 7, 7, 7, 7, 7, 7, 7, 7, 7, 7, 7, 7, 7, 7, 7, 7, 7, 7, 7, 7, 7, 7, 7, 7, 7, 7, 7, 8, 8, 8, 8, 8, 8, 8, 8, 8, 8, 8, 8, 8, 8, 8, 8, 8, 8, 8, 8, 8, 8, 8, 8, 8, 8, 8, 8, 8, 8, 8, 8, 8, 8, 8, 8, 8, 8, 8, 8, 8, 8, 8, 8, 8, 8, 8, 8, 8, 8, 8, 8, 8, 8, 8, 8, 8, 8, 8, 8, 8, 8, 8, 8, 8, 8, 8, 8, 8, 8, 8, 8, 8, 8, 8, 8, 8, 8, 8, 8, 8, 8, 8, 8, 8, 8, 8, 8, 8, 8, 8, 8, 8, 8, 8, 8, 8, 8, 8, 8, 8, 8, 8, 8, 8, 8, 8, 8, 8, 8, 8, 8, 8, 8, 8, 8, 8, 8, 8, 8, 8, 8, 8, 8, 8, 8, 8, 8]⟩ : ByteArray) (ji8)))))) else (none)) else (none)) = some r := by first | (rw [hji8] at H; exact H) | (simp only [hji8] at H ⊢; exact H)
   by_cases c9 : 0 ≤ (ji8)
   rotate_left
   ·rw [if_neg c9] at H; exact absurd H (by simp)
   rw [if_pos c9] at H
   have c9b0 : decide (0 ≤ (ji8)) = true := decide_eq_true c9
   clear c9
   by_cases c10 : (ji8) < 256
   rotate_left
   ·rw [if_neg c10] at H; exact absurd H (by simp)
   rw [if_pos c10] at H
   have c10b0 : decide ((ji8) < 256) = true := decide_eq_true c10
   clear c10
   obtain rfl := zOi H
   have p11 : 0 ≤ ((ji8) : Int) := of_decide_eq_true (by assumption)
   have q11 : (ji8) < (256 : Int) := of_decide_eq_true (by assumption)
   have hx11 := bt_at (⟨#[0, 1, 2, 2, 3, 3, 3, 3, 4, 4, 4, 4, 4, 4, 4, 4, 5, 5, 5, 5, 5, 5, 5, 5, 5, 5, 5, 5, 5, 5, 5, 5, 6, 6, 6, 6, 6, 6, 6, 6, 6, 6, 6, 6, 6, 6, 6, 6, 6, 6, 6, 6, 6, 6, 6, 6, 6, 6, 6, 6, 6, 6, 6, 6, 7, 7, 7, 7, 7, 7, 7, 7, 7, 7, 7, 7, 7, 7, 7, 7, 7, 7, 7, 7, 7, 7, 7, 7, 7, 7, 7, 7, 7, 7, 7, 7, 7, 7, 7, 7, 7, 7, 7, 7, 7, 7, 7, 7, 7, 7, 7, 7, 7, 7, 7, 7, 7, 7, 7, 7, 7, 7, 7, 7, 7, 7, 7, 7, 8, 8, 8, 8, 8, 8, 8, 8, 8, 8, 8, 8, 8, 8, 8, 8, 8, 8, 8, 8, 8, 8, 8, 8, 8, 8, 8, 8, 8, 8, 8, 8, 8, 8, 8, 8, 8, 8, 8, 8, 8, 8, 8, 8, 8, 8, 8, 8, 8, 8, 8, 8, 8, 8, 8, 8, 8, 8, 8, 8, 8, 8, 8, 8, 8, 8, 8, 8, 8, 8, 8, 8, 8, 8, 8, 8, 8, 8, 8, 8, 8, 8, 8, 8, 8, 8, 8, 8, 8, 8, 8, 8, 8, 8, 8, 8, 8, 8, 8, 8, 8, 8, 8, 8, 8, 8, 8, 8, 8, 8, 8, 8, 8, 8, 8, 8, 8, 8, 8, 8, 8, 8, 8, 8, 8, 8, 8, 8]⟩ : ByteArray) (ji8)
   replace p11 := eq_true p11
   replace q11 := eq_true q11
   go_enter Tryd.func79, Tryd.ntmps79
   go_wp2
   go_ret
   exact ⟨by first | rfl | (simp; done) | (simp only [← hji8] <;> (first | rfl | simp)) | (simp [*]; done), by repeat (first | exact Drawn0.refl _ | apply Drawn0.step)⟩
 ·rw [if_neg c2] at H
  have c2b0 : decide (65536 ≤ a0) = false := decide_eq_false c2
  clear c2
  by_cases c12 : a0 ≥ 256
  ·rw [if_pos c12] at H
   have c12b0 : decide (256 ≤ a0) = true := decide_eq_true c12
   clear c12
   obtain ⟨ji13, hji13⟩ : ∃ j_ : Int, ((a0 / 256) % 256) = j_ := ⟨_, rfl⟩
   replace H : (if 0 ≤ (ji13) then (if (ji13) < 256 then (some (wrap64 ((0 + 8) + (wrap64 (bt (⟨#[0, 1, 2, 2, 3, 3, 3, 3, 4, 4, 4, 4, 4, 4, 4, 4, 5, 5, 5, 5, 5, 5, 5, 5, 5, 5, 5, 5, 5, 5, 5, 5, 6, 6, 6, 6, 6, 6, 6, 6, 6, 6, 6, 6, 6, 6, 6, 6, 6, 6, 6, 6, 6, 6, 6, 6, 6, 6, 6, 6, 6, 6, 6, 6, 7, 7, 7, 7, 7, 7, 7, 7, 7, 7, 7, 7, 7, 7, 7, 7, 7, 7, 7, 7, 7, 7, 7, 7, 7, 7, 7, 7, 7, 7, 7, 7, 7, 7, 7, 7, 7, 7, 7, 7, 7, 7, 7, 7, 7, 7, 7, 7, 7, 7, 7, 7, 7, 7, 7, 7, 7, 7, 7, 7, 7, 7, 7, 7, 8, 8, 8, 8, 8, 8, 8, 8, 8, 8, 8, 8, 8, 8, 8, 8, 8, 8, 8, 8, 8, 8, 8, 8, 8, 8, 8, 8, 8, 8, 8, 8, 8, 8, 8, 8, 8, 8, 8, 8, 8, 8, 8, 8, 8, 8, 8, 8, 8, 8, 8, 8, 8, 8, 8, 8, 8, 8, 8, 8, 8, 8, 8, 8, 8, 8, 8, 8, 8, 8, 8, 8, 8, 8, 8, 8, 8, 8, 8, 8, 8, 8, 8, 8, 8, 8, 8, 8, 8, 8, 8, 8, 8, 8, 8, 8, 8, 8, 8, 8, 8, 8, 8, 8, 8, 8, 8, 8, 8, 8, 8, 8, 8, 8, 8, 8, 8, 8, 8, 8, 8, 8, 8, 8, 8, 8, 8, 8]⟩ : ByteArray) (ji13)))))) else (none)) else (none)) = some r := by first | (rw [hji13] at H; exact H) | (simp only [hji13] at H ⊢; exact H)
   by_cases c14 : 0 ≤ (ji13)
   rotate_left
   ·rw [if_neg c14] at H; exact absurd H (by simp)
   rw [if_pos c14] at H
   have c14b0 : decide (0 ≤ (ji13)) = true := decide_eq_true c14
   clear c14
   by_cases c15 : (ji13) < 256
   rotate_left
   ·rw [if_neg c15] at H; exact absurd H (by simp)
   rw [if_pos c15] at H
   have c15b0 : decide ((ji13) < 256) = true := decide_eq_true c15
   clear c15
   obtain rfl := zOi H
   have p16 : 0 ≤ ((ji13) : Int) := of_decide_eq_true (by assumption)
   have q16 : (ji13) < (256 : Int) := of_decide_eq_true (by assumption)
   have hx16 := bt_at (⟨#[0, 1, 2, 2, 3, 3, 3, 3, 4, 4, 4, 4, 4, 4, 4, 4, 5, 5, 5, 5, 5, 5, 5, 5, 5, 5, 5, 5, 5, 5, 5, 5, 6, 6, 6, 6, 6, 6, 6, 6, 6, 6, 6, 6, 6, 6, 6, 6, 6, 6, 6, 6, 6, 6, 6, 6, 6, 6, 6, 6, 6, 6, 6, 6, 7, 7, 7, 7, 7, 7, 7, 7, 7, 7, 7, 7, 7, 7, 7, 7, 7, 7, 7, 7, 7, 7, 7, 7, 7, 7, 7, 7, 7, 7, 7, 7, 7, 7, 7, 7, 7, 7, 7, 7, 7, 7, 7, 7, 7, 7, 7, 7, 7, 7, 7, 7, 7, 7, 7, 7, 7, 7, 7, 7, 7, 7, 7, 7, 8, 8, 8, 8, 8, 8, 8, 8, 8, 8, 8, 8, 8, 8, 8, 8, 8, 8, 8, 8, 8, 8, 8, 8, 8, 8, 8, 8, 8, 8, 8, 8, 8, 8, 8, 8, 8, 8, 8, 8, 8, 8, 8, 8, 8, 8, 8, 8, 8, 8, 8, 8, 8, 8, 8, 8, 8, 8, 8, 8, 8, 8, 8, 8, 8, 8, 8, 8, 8, 8, 8, 8, 8, 8, 8, 8, 8, 8, 8, 8, 8, 8, 8, 8, 8, 8, 8, 8, 8, 8, 8, 8, 8, 8, 8, 8, 8, 8, 8, 8, 8, 8, 8, 8, 8, 8, 8, 8, 8, 8, 8, 8, 8, 8, 8, 8, 8, 8, 8, 8, 8, 8, 8, 8, 8, 8, 8, 8]⟩ : ByteArray) (ji13)
   replace p16 := eq_true p16
   replace q16 := eq_true q16
   go_enter Tryd.func79, Tryd.ntmps79
   go_wp2
   go_ret
   exact ⟨by first | rfl | (simp; done) | (simp only [← hji13] <;> (first | rfl | simp)) | (simp [*]; done), by repeat (first | exact Drawn0.refl _ | apply Drawn0.step)⟩
  ·rw [if_neg c12] at H
   have c12b0 : decide (256 ≤ a0) = false := decide_eq_false c12
   clear c12
   obtain ⟨ji17, hji17⟩ : ∃ j_ : Int, ((a0) % 256) = j_ := ⟨_, rfl⟩
   replace H : (if 0 ≤ (ji17) then (if (ji17) < 256 then (some (wrap64 (0 + (wrap64 (bt (⟨#[0, 1, 2, 2, 3, 3, 3, 3, 4, 4, 4, 4, 4, 4, 4, 4, 5, 5, 5, 5, 5, 5, 5, 5, 5, 5, 5, 5, 5, 5, 5, 5, 6, 6, 6, 6, 6, 6, 6, 6, 6, 6, 6, 6, 6, 6, 6, 6, 6, 6, 6, 6, 6, 6, 6, 6, 6, 6, 6, 6, 6, 6, 6, 6, 7, 7, 7, 7, 7, 7, 7, 7, 7, 7, 7, 7, 7, 7, 7, 7, 7, 7, 7, 7, 7, 7, 7, 7, 7, 7, 7, 7, 7, 7, 7, 7, 7, 7, 7, 7, 7, 7, 7, 7, 7, 7, 7, 7, 7, 7, 7, 7, 7, 7, 7, 7, 7, 7, 7, 7, 7, 7, 7, 7, 7, 7, 7, 7, 8, 8, 8, 8, 8, 8, 8, 8, 8, 8, 8, 8, 8, 8, 8, 8, 8, 8, 8, 8, 8, 8, 8, 8, 8, 8, 8, 8, 8, 8, 8, 8, 8, 8, 8, 8, 8, 8, 8, 8, 8, 8, 8, 8, 8, 8, 8, 8, 8, 8, 8, 8, 8, 8, 8, 8, 8, 8, 8, 8, 8, 8, 8, 8, 8, 8, 8, 8, 8, 8, 8, 8, 8, 8, 8, 8, 8, 8, 8, 8, 8, 8, 8, 8, 8, 8, 8, 8, 8, 8, 8, 8, 8, 8, 8, 8, 8, 8, 8, 8, 8, 8, 8, 8, 8, 8, 8, 8, 8, 8, 8, 8, 8, 8, 8, 8, 8, 8, 8, 8, 8, 8, 8, 8, 8, 8, 8, 8]⟩ : ByteArray) (ji17)))))) else (none)) else (none)) = some r := by first | (rw [hji17] at H; exact H) | (simp only [hji17] at H ⊢; exact H)
   by_cases c18 : 0 ≤ (ji17)
   ·rw [if_pos c18] at H
    have c18b0 : decide (0 ≤ (ji17)) = true := decide_eq_true c18
    clear c18
    by_cases c19 : (ji17) < 256
    rotate_left
    ·rw [if_neg c19] at H; exact absurd H (by simp)
    rw [if_pos c19] at H
    have c19b0 : decide ((ji17) < 256) = true := decide_eq_true c19
    clear c19
    obtain rfl := zOi H
    have p20 : 0 ≤ ((ji17) : Int) := of_decide_eq_true (by assumption)
    have q20 : (ji17) < (256 : Int) := of_decide_eq_true (by assumption)
    have hx20 := bt_at (⟨#[0, 1, 2, 2, 3, 3, 3, 3, 4, 4, 4, 4, 4, 4, 4, 4, 5, 5, 5, 5, 5, 5, 5, 5, 5, 5, 5, 5, 5, 5, 5, 5, 6, 6, 6, 6, 6, 6, 6, 6, 6, 6, 6, 6, 6, 6, 6, 6, 6, 6, 6, 6, 6, 6, 6, 6, 6, 6, 6, 6, 6, 6, 6, 6, 7, 7, 7, 7, 7, 7, 7, 7, 7, 7, 7, 7, 7, 7, 7, 7, 7, 7, 7, 7, 7, 7, 7, 7, 7, 7, 7, 7, 7, 7, 7, 7, 7, 7, 7, 7, 7, 7, 7, 7, 7, 7, 7, 7, 7, 7, 7, 7, 7, 7, 7, 7, 7, 7, 7, 7, 7, 7, 7, 7, 7, 7, 7, 7, 8, 8, 8, 8, 8, 8, 8, 8, 8, 8, 8, 8, 8, 8, 8, 8, 8, 8, 8, 8, 8, 8, 8, 8, 8, 8, 8, 8, 8, 8, 8, 8, 8, 8, 8, 8, 8, 8, 8, 8, 8, 8, 8, 8, 8, 8, 8, 8, 8, 8, 8, 8, 8, 8, 8, 8, 8, 8, 8, 8, 8, 8, 8, 8, 8, 8, 8, 8, 8, 8, 8, 8, 8, 8, 8, 8, 8, 8, 8, 8, 8, 8, 8, 8, 8, 8, 8, 8, 8, 8, 8, 8, 8, 8, 8, 8, 8, 8, 8, 8, 8, 8, 8, 8, 8, 8, 8, 8, 8, 8, 8, 8, 8, 8, 8, 8, 8, 8, 8, 8, 8, 8, 8, 8, 8, 8, 8, 8]⟩ : ByteArray) (ji17)
    replace p20 := eq_true p20
    replace q20 := eq_true q20
    go_enter Tryd.func79, Tryd.ntmps79
    go_wp2
    go_ret
    exact ⟨by first | rfl | (simp; done) | (simp only [← hji17] <;> (first | rfl | simp)) | (simp [*]; done), by repeat (first | exact Drawn0.refl _ | apply Drawn0.step)⟩
   ·rw [if_neg c18] at H
    exact absurd H (by simp)


def bits_LeadingZeros32.f (a0 : Int) : Option (Int) := (bits_Len32.f a0).bind fun t134 => (some (wrap64 (32 - t134)))
theorem bits_LeadingZeros32.calls (a0 : Int) (r : Int) (w : World) (h : bits_LeadingZeros32.f a0 = some r) :
    Calls Tryd.prog 59 #[.int .u32 a0] w fun e w' => e = .returned (.int .i64 r) ∧ Drawn0 w w' := by
  have H : ((bits_Len32.f a0).bind fun t134 => (some (wrap64 (32 - t134)))) = some r := h
  clear h
  replace H := bnd H
  obtain ⟨t134, A20, H⟩ := H
  have A2 := zMk A20
  clear A20
  obtain rfl := zOi H
  go_enter Tryd.func59, Tryd.ntmps59
  go_wp2_with (first | ((with_reducible refine gate_callee (f:=79) rfl ?_); refine goesL_ (some 4) rfl rfl Tryd.func79 (by kernel_rfl) rfl #[.int .u32 a0] rfl (by (try simp only [zMa, zMc, zMn]); first | done | rfl | (simp only [zLd, zLt]; rfl)) ?_; (with_reducible refine (bits_Len32.calls a0 t134 _ A2.out).mono ?_); rintro e w' ⟨rfl, ⟨nd, rfl⟩⟩; refine ⟨_, rfl, ?_⟩))
  go_ret
  exact ⟨by first | rfl | (simp; done) | (simp [*]; done), by repeat (first | exact Drawn0.refl _ | apply Drawn0.step)⟩


mutual
def n_Mul.l0 : Nat → List Int → List Int → List Int → Int → Int → Option (List Int)
 | 0, _, _, _, _, _ => none
 | k + 1, x1, x5, x22, x23, x24 => if x24 < x23 then (if 0 ≤ x24 then (if x24 < (x22.length : Int) then (n_Mul.l1 k x1 x5 x24 (rd x22 x24) 0 x22 x23 x24 x1 (x1.length : Int) 0) else (none)) else (none)) else ((n_cut.f x5).bind fun t116 => (some t116))
def n_Mul.l1 : Nat → List Int → List Int → Int → Int → Int → List Int → Int → Int → List Int → Int → Int → Option (List Int)
 | 0, _, _, _, _, _, _, _, _, _, _, _ => none
 | k + 1, x1, x5, x6, x7, x8, x22, x23, x24, x29, x30, x31 => if x31 < x30 then (if 0 ≤ x31 then (if x31 < (x29.length : Int) then (if 0 ≤ (wrap64 (x6 + x31)) then (if (wrap64 (x6 + x31)) < (x5.length : Int) then (n_Mul.l1 k x1 (x5.set ((wrap64 (x6 + x31)) : Int).toNat ((IntKind.u64.wrap ((IntKind.u64.wrap ((IntKind.u64.wrap ((IntKind.u64.wrap (x7)) * (IntKind.u64.wrap (rd x29 x31)))) + (IntKind.u64.wrap (rd x5 (wrap64 (x6 + x31)))))) + x8)) % 4294967296)) x6 x7 ((IntKind.u64.wrap ((IntKind.u64.wrap ((IntKind.u64.wrap ((IntKind.u64.wrap (x7)) * (IntKind.u64.wrap (rd x29 x31)))) + (IntKind.u64.wrap (rd x5 (wrap64 (x6 + x31)))))) + x8)) / 4294967296) x22 x23 x24 x29 x30 (wrap64 (x31 + 1))) else (none)) else (none)) else (none)) else (none)) else (if 0 ≤ (wrap64 (x6 + (x1.length : Int))) then (if (wrap64 (x6 + (x1.length : Int))) < (x5.length : Int) then (n_Mul.l0 k x1 (x5.set ((wrap64 (x6 + (x1.length : Int))) : Int).toNat ((x8) % 4294967296)) x22 x23 (wrap64 (x24 + 1))) else (none)) else (none))
end
def n_Mul.f (k : Nat) (l0 : List Int) (l1 : List Int) : Option (List Int) := (n_cut.f l0).bind fun t107 => ((n_cut.f l1).bind fun t110 => (if 0 ≤ (wrap64 ((t107.length : Int) + (t110.length : Int))) then (if (wrap64 ((t107.length : Int) + (t110.length : Int)) : Int).toNat ≤ 70368744177664 then (n_Mul.l0 k t110 (List.replicate (wrap64 ((t107.length : Int) + (t110.length : Int)) : Int).toNat 0) t107 (t107.length : Int) 0) else (none)) else (none)))
theorem n_Mul.calls (k : Nat) (P0_ : Nat → Prop) (A0 : Option Addr) (c0 : Nat) (l0 : List Int) (P1_ : Nat → Prop) (A1 : Option Addr) (c1 : Nat) (l1 : List Int) (r : List Int) (w : World) (hs0 : Kd.V (Kd.int .u32) 58 w w.heap.size (fun k_ => P0_ k_) (.slice A0 l0.length c0) l0) (hs1 : Kd.V (Kd.int .u32) 58 w w.heap.size (fun k_ => P1_ k_) (.slice A1 l1.length c1) l1) (h : n_Mul.f k l0 l1 = some r) :
  Calls Tryd.prog 45 #[.slice A0 l0.length c0, .slice A1 l1.length c1] w fun e w' => ∃ v0_ : Value, e = .returned (v0_) ∧ Kd.V (Kd.int .u32) 58 w' w.heap.size (fun k_ => ((P0_ k_ ∨ P1_ k_) ∨ w.heap.size ≤ k_)) v0_ r ∧ Below w.heap.size w w' := by
 have HO0 := zMk (show Kd.V (Kd.int .u32) 58 w w.heap.size (fun k_ => ((P0_ k_ ∨ P1_ k_) ∨ w.heap.size ≤ k_)) (.slice A0 l0.length c0) l0 from zVm hs0 (fun k_ hk => .inl (.inl hk)))
 have HO1 := zMk (show Kd.V (Kd.int .u32) 58 w w.heap.size (fun k_ => ((P0_ k_ ∨ P1_ k_) ∨ w.heap.size ≤ k_)) (.slice A1 l1.length c1) l1 from zVm hs1 (fun k_ hk => .inl (.inr hk)))
 have HB := zMk (Below.refl w.heap.size w)
 have H : ((n_cut.f l0).bind fun t107 => ((n_cut.f l1).bind fun t110 => (if 0 ≤ (wrap64 ((t107.length : Int) + (t110.length : Int))) then (if (wrap64 ((t107.length : Int) + (t110.length : Int)) : Int).toNat ≤ 70368744177664 then (n_Mul.l0 k t110 (List.replicate (wrap64 ((t107.length : Int) + (t110.length : Int)) : Int).toNat 0) t107 (t107.length : Int) 0) else (none)) else (none)))) = some r := h
 clear h
 replace H := bnd H
 obtain ⟨t107, A30, H⟩ := H
 have A3 := zMk A30
 clear A30
 replace H := bnd H
 obtain ⟨t110, A40, H⟩ := H
 have A4 := zMk A40
 clear A40
 obtain ⟨ji5, hji5⟩ : ∃ j_ : Int, (wrap64 ((t107.length : Int) + (t110.length : Int))) = j_ := ⟨_, rfl⟩
 replace H : (if 0 ≤ (ji5) then (if (ji5 : Int).toNat ≤ 70368744177664 then (n_Mul.l0 k t110 (List.replicate (ji5 : Int).toNat 0) t107 (t107.length : Int) 0) else (none)) else (none)) = some r := by first | (rw [hji5] at H; exact H) | (simp only [hji5] at H ⊢; exact H)
 (try rw [hji5] at A3)
 (try rw [hji5] at A4)
 have hji5w : (IntKind.i64.wrap ((t107.length : Int) + (t110.length : Int))) = ji5 := (i64_w _).trans hji5
 by_cases c6 : 0 ≤ (ji5)
 ·rw [if_pos c6] at H
  have c6b0 := eq_true c6
  have c6b1 : decide (0 ≤ (ji5)) = true := decide_eq_true c6
  clear c6
  by_cases c7 : (ji5 : Int).toNat ≤ 70368744177664
  rotate_left
  ·rw [if_neg c7] at H; exact absurd H (by simp)
  rw [if_pos c7] at H
  have c7b0 := eq_true c7
  have c7b1 : decide ((ji5 : Int).toNat ≤ 70368744177664) = true := decide_eq_true c7
  clear c7
  obtain ⟨y113, hy113⟩ : ∃ y_ : List Int, y_ = (List.replicate (ji5 : Int).toNat 0) := ⟨_, rfl⟩
  replace H : (n_Mul.l0 k t110 y113 t107 (t107.length : Int) 0) = some r := by first | (rw [hy113]; with_reducible exact H) | (have H2_ := bsm H; first | (rw [hy113]; with_reducible exact H2_) | with_reducible exact H2_) | with_reducible exact H | (rw [hy113]; exact H) | exact H
  have Ny113 := zMk hy113
  clear hy113
  have H' := zMk H
  clear H
  go_enter Tryd.func45, Tryd.ntmps45
  go_wp2_with (first | ((with_reducible refine gate_callee (f:=56) rfl ?_); refine goesL_ (some 13) rfl rfl Tryd.func56 (by kernel_rfl) rfl #[.slice A0 l0.length c0] rfl (by (try simp only [zMa, zMc, zMn]); first |  done|  rfl|  (simp only [zLd, zLt]; rfl)) ?_; (with_reducible refine (n_cut.calls (fun k_ => ((P0_ k_ ∨ P1_ k_) ∨ w.heap.size ≤ k_)) _ _ l0 t107 _ ?side1 A3.out).mono ?_); (case side1 => exact HO0.out); rintro e w8 ⟨v108, rfl, ho0, hb⟩; refine ⟨_, rfl, ?_⟩; replace HO0 := zMk (zVb (uV HO0.out) hb); replace HO1 := zMk (zVb (uV HO1.out) hb); have HO109 := zMk (zVl (zVm (ok' := fun k_ => ((P0_ k_ ∨ P1_ k_) ∨ w.heap.size ≤ k_)) ho0 (fun k_ hk_ => Or.elim hk_ (fun hs_ => hs_) (fun hn_ => (.inr (Nat.le_trans (zBs (uT HB.out)) hn_))))) (zBs (uT HB.out))); replace HB := zMk (zBt (uT HB.out) hb))|((with_reducible refine gate_callee (f:=56) rfl ?_); refine goesL_ (some 15) rfl rfl Tryd.func56 (by kernel_rfl) rfl #[.slice A1 l1.length c1] rfl (by (try simp only [zMa, zMc, zMn]); first |  done|  rfl|  (simp only [zLd, zLt]; rfl)) ?_; (with_reducible refine (n_cut.calls (fun k_ => ((P0_ k_ ∨ P1_ k_) ∨ w.heap.size ≤ k_)) _ _ l1 t110 _ ?side1 A4.out).mono ?_); (case side1 => exact HO1.out); rintro e w9 ⟨v111, rfl, ho0, hb⟩; refine ⟨_, rfl, ?_⟩; replace HO0 := zMk (zVb (uV HO0.out) hb); replace HO1 := zMk (zVb (uV HO1.out) hb); replace HO109 := zMk (zVb (uV HO109.out) hb); have HO112 := zMk (zVl (zVm (ok' := fun k_ => ((P0_ k_ ∨ P1_ k_) ∨ w.heap.size ≤ k_)) ho0 (fun k_ hk_ => Or.elim hk_ (fun hs_ => hs_) (fun hn_ => (.inr (Nat.le_trans (zBs (uT HB.out)) hn_))))) (zBs (uT HB.out))); replace HB := zMk (zBt (uT HB.out) hb); obtain ⟨Ao10, co10, eo10⟩ := zVs HO109.out; subst eo10; obtain ⟨Ao11, co11, eo11⟩ := zVs HO112.out; subst eo11)|((with_reducible refine gate_dst (N:=21) rfl ?_); refine Kd.R_make (Kd.int .u32) _ 58 rfl (N:=21) rfl 22 _ _ rfl ji5 rfl rfl Tryd.underlying22 (.int .u32 0) 4 info58 rfl (by decide) (by omega) 0 (ok:=fun _ => True) (okp:=fun _ => True) rfl (fun _ hk => hk) trivial (of_decide_eq_true (by first | (with_reducible assumption)|  assumption)) (Nat.le_trans (Nat.mul_le_mul_right _ (of_decide_eq_true (by first | (with_reducible assumption)|  assumption) : ji5.toNat ≤ 70368744177664)) (by omega)) (Below.refl _ _) (Nat.le_refl _) ?_; intro v114 w12 ho13 hb hg_ hnew_; clear hg_ hnew_; (first |  rw [← Ny113.out] at ho13|  (simp only [Int.reduceToNat] at ho13; rw [← Ny113.out] at ho13)); replace HO0 := zMk (zVe (uV HO0.out) (zRz ho13) hb); replace HO1 := zMk (zVe (uV HO1.out) (zRz ho13) hb); replace HO109 := zMk (zVe (uV HO109.out) (zRz ho13) hb); replace HO112 := zMk (zVe (uV HO112.out) (zRz ho13) hb); have HO115 := zMk (zRl (Kd.R_newM (M:=fun k_ => (w.heap.size ≤ k_)) ho13 (zBs (uT HB.out)) (fun k_ h_ => h_)) (zBs (uT HB.out))); replace HB := zMk (zBt (uT HB.out) hb); clear hb ho13))
  go_loopg [24] k (fun kq v24 w' => ∃ (x5_1 : List Int) (x24_1 : Int), v24 = .int .i64 x24_1 ∧ Aside0 (n_Mul.l0 kq t110 x5_1 t107 (t107.length : Int) x24_1 = some r) ∧ Aside0 (kq ≤ k) ∧ Aside0 (Kd.V (Kd.int .u32) 58 w' w.heap.size (fun k_ => ((P0_ k_ ∨ P1_ k_) ∨ w.heap.size ≤ k_) ∧ some k_ ≠ (v114 : Value).ownBlock) (.slice Ao11 t110.length co11) t110) ∧ Aside0 (Kd.R (Kd.int .u32) 58 w' w.heap.size (fun k_ => (w.heap.size ≤ k_)) v114 x5_1) ∧ Aside0 (Kd.V (Kd.int .u32) 58 w' w.heap.size (fun k_ => ((P0_ k_ ∨ P1_ k_) ∨ w.heap.size ≤ k_) ∧ some k_ ≠ (v114 : Value).ownBlock) (.slice Ao10 t107.length co10) t107) ∧ Aside0 (Below w.heap.size w w'))
  case atStart => exact ⟨(y113), (0), (by first | rfl | (simp; done) | (simp [*]; done)), H', ⟨Nat.le_refl _⟩, ⟨by exact uV HO112.out⟩, ⟨by (with_reducible repeat (first | apply zRa | apply zRn | apply zRd)); exact zRm HO115.out (fun _ hk => hk.1)⟩, ⟨by exact uV HO109.out⟩, ⟨by exact uT HB.out⟩⟩
  clear H'
  obtain ⟨x5_1, x24_1, rfl, HA, HK1, HO_1, HO_5, HO_22, HB⟩ := hrel
  rcases gk with _ | k1
  ·exact absurd HA.out (by simp [n_Mul.l0])
  have H := HA.out
  clear HA
  simp only [n_Mul.l0] at H
  by_cases c14 : x24_1 < (t107.length : Int)
  ·rw [if_pos c14] at H
   have c14b0 : decide (x24_1 < (t107.length : Int)) = true := decide_eq_true c14
   clear c14
   by_cases c15 : 0 ≤ x24_1
   rotate_left
   ·rw [if_neg c15] at H; exact absurd H (by simp)
   rw [if_pos c15] at H
   have c15b0 : decide (0 ≤ x24_1) = true := decide_eq_true c15
   clear c15
   by_cases c16 : x24_1 < (t107.length : Int)
   rotate_left
   ·rw [if_neg c16] at H; exact absurd H (by simp)
   rw [if_pos c16] at H
   have c16b0 : decide (x24_1 < (t107.length : Int)) = true := decide_eq_true c16
   clear c16
   have H' := zMk H
   clear H
   have p119 : 0 ≤ (x24_1 : Int) := of_decide_eq_true (by assumption)
   have q119 : x24_1 < (t107.length : Int) := of_decide_eq_true (by assumption)
   obtain ⟨ad119, e119, hx119_0⟩ := zAi (zVr HO_22.out).2.2 x24_1 p119 q119
   cases e119
   replace p119 := eq_true p119
   replace q119 := eq_true q119
   go_wp2
   go_loopg [8, 31] k1 (fun kq v8 v31 w' => ∃ (x5_2 : List Int) (x8_2 : Int) (x31_2 : Int), v8 = .int .u64 x8_2 ∧ v31 = .int .i64 x31_2 ∧ Aside0 (n_Mul.l1 kq t110 x5_2 x24_1 (rd t107 x24_1) x8_2 t107 (t107.length : Int) x24_1 t110 (t110.length : Int) x31_2 = some r) ∧ Aside0 (kq ≤ k1) ∧ Aside0 (Kd.V (Kd.int .u32) 58 w' w.heap.size (fun k_ => ((P0_ k_ ∨ P1_ k_) ∨ w.heap.size ≤ k_) ∧ some k_ ≠ (v114 : Value).ownBlock) (.slice Ao11 t110.length co11) t110) ∧ Aside0 (Kd.R (Kd.int .u32) 58 w' w.heap.size (fun k_ => (w.heap.size ≤ k_)) v114 x5_2) ∧ Aside0 (Kd.V (Kd.int .u32) 58 w' w.heap.size (fun k_ => ((P0_ k_ ∨ P1_ k_) ∨ w.heap.size ≤ k_) ∧ some k_ ≠ (v114 : Value).ownBlock) (.slice (some ad119) t107.length co10) t107) ∧ Aside0 (Kd.V (Kd.int .u32) 58 w' w.heap.size (fun k_ => ((P0_ k_ ∨ P1_ k_) ∨ w.heap.size ≤ k_) ∧ some k_ ≠ (v114 : Value).ownBlock) (.slice Ao11 t110.length co11) t110) ∧ Aside0 (Below w.heap.size w w'))
   case atStart => exact ⟨(x5_1), (0), (0), (by first | rfl | (simp; done) | (simp [*]; done)), (by first | rfl | (simp; done) | (simp [*]; done)), H', ⟨Nat.le_refl _⟩, ⟨by exact uV HO_1.out⟩, ⟨by exact uR HO_5.out⟩, ⟨by exact uV HO_22.out⟩, ⟨by exact uV HO_1.out⟩, ⟨by exact uT HB.out⟩⟩
   clear H'
   obtain ⟨x5_2, x8_2, x31_2, rfl, rfl, HA, HK2, HO_1, HO_5, HO_22, HO_29, HB⟩ := hrel
   rcases gk with _ | k2
   ·exact absurd HA.out (by simp [n_Mul.l1])
   have H := HA.out
   clear HA
   simp only [n_Mul.l1] at H
   by_cases c17 : x31_2 < (t110.length : Int)
   ·rw [if_pos c17] at H
    have c17b0 : decide (x31_2 < (t110.length : Int)) = true := decide_eq_true c17
    clear c17
    by_cases c18 : 0 ≤ x31_2
    rotate_left
    ·rw [if_neg c18] at H; exact absurd H (by simp)
    rw [if_pos c18] at H
    have c18b0 : decide (0 ≤ x31_2) = true := decide_eq_true c18
    clear c18
    by_cases c19 : x31_2 < (t110.length : Int)
    rotate_left
    ·rw [if_neg c19] at H; exact absurd H (by simp)
    rw [if_pos c19] at H
    have c19b0 : decide (x31_2 < (t110.length : Int)) = true := decide_eq_true c19
    clear c19
    obtain ⟨ji20, hji20⟩ : ∃ j_ : Int, (wrap64 (x24_1 + x31_2)) = j_ := ⟨_, rfl⟩
    replace H : (if 0 ≤ (ji20) then (if (ji20) < (x5_2.length : Int) then (n_Mul.l1 k2 t110 (x5_2.set ((ji20) : Int).toNat ((IntKind.u64.wrap ((IntKind.u64.wrap ((IntKind.u64.wrap ((IntKind.u64.wrap ((rd t107 x24_1))) * (IntKind.u64.wrap (rd t110 x31_2)))) + (IntKind.u64.wrap (rd x5_2 (ji20))))) + x8_2)) % 4294967296)) x24_1 (rd t107 x24_1) ((IntKind.u64.wrap ((IntKind.u64.wrap ((IntKind.u64.wrap ((IntKind.u64.wrap ((rd t107 x24_1))) * (IntKind.u64.wrap (rd t110 x31_2)))) + (IntKind.u64.wrap (rd x5_2 (ji20))))) + x8_2)) / 4294967296) t107 (t107.length : Int) x24_1 t110 (t110.length : Int) (wrap64 (x31_2 + 1))) else (none)) else (none)) = some r := by first | (rw [hji20] at H; exact H) | (simp only [hji20] at H ⊢; exact H)
    have hji20w : (IntKind.i64.wrap (x24_1 + x31_2)) = ji20 := (i64_w _).trans hji20
    by_cases c21 : 0 ≤ (ji20)
    rotate_left
    ·rw [if_neg c21] at H; exact absurd H (by simp)
    rw [if_pos c21] at H
    have c21b0 : decide (0 ≤ (ji20)) = true := decide_eq_true c21
    clear c21
    by_cases c22 : (ji20) < (x5_2.length : Int)
    rotate_left
    ·rw [if_neg c22] at H; exact absurd H (by simp)
    rw [if_pos c22] at H
    have c22b0 : decide ((ji20) < (x5_2.length : Int)) = true := decide_eq_true c22
    clear c22
    obtain ⟨y122, hy122⟩ : ∃ y_ : List Int, y_ = (x5_2.set ((ji20) : Int).toNat ((IntKind.u64.wrap ((IntKind.u64.wrap ((IntKind.u64.wrap ((IntKind.u64.wrap ((rd t107 x24_1))) * (IntKind.u64.wrap (rd t110 x31_2)))) + (IntKind.u64.wrap (rd x5_2 (ji20))))) + x8_2)) % 4294967296)) := ⟨_, rfl⟩
    replace H : (n_Mul.l1 k2 t110 y122 x24_1 (rd t107 x24_1) ((IntKind.u64.wrap ((IntKind.u64.wrap ((IntKind.u64.wrap ((IntKind.u64.wrap ((rd t107 x24_1))) * (IntKind.u64.wrap (rd t110 x31_2)))) + (IntKind.u64.wrap (rd x5_2 (ji20))))) + x8_2)) / 4294967296) t107 (t107.length : Int) x24_1 t110 (t110.length : Int) (wrap64 (x31_2 + 1))) = some r := by first | (rw [hy122]; with_reducible exact H) | (have H2_ := bsm H; first | (rw [hy122]; with_reducible exact H2_) | with_reducible exact H2_) | with_reducible exact H | (rw [hy122]; exact H) | exact H
    have Ny122 := zMk hy122
    clear hy122
    have H' := zMk H
    clear H
    have p120 : 0 ≤ (x31_2 : Int) := of_decide_eq_true (by assumption)
    have q120 : x31_2 < (t110.length : Int) := of_decide_eq_true (by assumption)
    obtain ⟨ad120, e120, hx120_0⟩ := zAi (zVr HO_29.out).2.2 x31_2 p120 q120
    cases e120
    replace p120 := eq_true p120
    replace q120 := eq_true q120
    obtain ⟨Ao24, co24, eo24⟩ := zRs HO_5.out
    subst eo24
    have p121 : 0 ≤ ((ji20) : Int) := of_decide_eq_true (by assumption)
    have q121 : (ji20) < (x5_2.length : Int) := of_decide_eq_true (by assumption)
    obtain ⟨ad121, e121, hx121_0⟩ := zAi (zRr HO_5.out).2.2 (ji20) p121 q121
    cases e121
    replace p121 := eq_true p121
    replace q121 := eq_true q121
    have p23 : 0 ≤ ((ji20) : Int) := of_decide_eq_true (by assumption)
    have q23 : ((ji20) : Int) < ((x5_2.length : Int) : Int) := of_decide_eq_true (by assumption)
    obtain ⟨go23, co23, eo23, gb23, gl23, cl23, HG23⟩ := Kd.R_form HO_5.out (by omega)
    (first |  cases eo23|  (injection eo23 with ea_ en_ ec_; (first |  subst ea_|  (injection ea_ with ea_; subst ea_)); subst ec_; clear en_))
    have GB23 := zMk gb23
    have IGB23 := ownGe GB23.out
    have GG23 := zMk HG23
    clear gb23 gl23 HG23
    (first | simp only [add_plain] at hx121_0 | skip)
    obtain ⟨hx23_0, hf23_0⟩ := Kd.R_celln 0 HO_5.out ((ji20) : Int) p23 q23
    replace p23 := eq_true p23
    replace q23 := eq_true q23
    have HP25 := Kd.R_putg HO_5.out ((ji20) : Int) ((IntKind.u64.wrap ((IntKind.u64.wrap ((IntKind.u64.wrap ((IntKind.u64.wrap ((rd t107 x24_1))) * (IntKind.u64.wrap (rd t110 x31_2)))) + (IntKind.u64.wrap (rd x5_2 (ji20))))) + x8_2)) % 4294967296)
    go_wp2_with (first | ((with_reducible refine gate_store (t:=58) (p:=59) rfl ?_); refine store_event (t:=58) (p:=59) (v:=?vo_w26) (w1:=(wr.setCell ⟨go23, ((ji20) : Int).toNat, none⟩ (.int .u32 ((IntKind.u64.wrap ((IntKind.u64.wrap ((IntKind.u64.wrap ((IntKind.u64.wrap ((rd t107 x24_1))) * (IntKind.u64.wrap (rd t110 x31_2)))) + (IntKind.u64.wrap (rd x5_2 (ji20))))) + x8_2)) % 4294967296)))) ?hg ?ho ?hn ?hr ?_; (case ho => rfl); (case hg => rfl); (case hn => rfl); (case hr => first | (go_simp; done)|(go_simp; rfl)|(go_simp; rw [show ∀ x : Int, IntKind.u32.wrap (IntKind.u8.wrap x) = x % 256 from fun x => (by show (x % 256) % 4294967296 = x % 256; omega)])); intro w26 hw; have hg : wr.grownBy w26 (some go23) := (by rw [hw]; exact HP25.2); have hp_ : Kd.R (Kd.int .u32) 58 w26 w.heap.size (fun k_ => (w.heap.size ≤ k_)) (.slice (some ⟨go23, 0, none⟩) x5_2.length co24) y122 := (by rw [hw, Ny122.out]; exact HP25.1); clear HP25; replace HO_1 := zMk (Kd.V_afterv (v:=(.slice (some ⟨go23, 0, none⟩) x5_2.length co24)) (v1:=(.slice (some ⟨go23, 0, none⟩) x5_2.length co24)) (ok:=(fun k_ => ((P0_ k_ ∨ P1_ k_) ∨ w.heap.size ≤ k_))) (uV HO_1.out) hg (.inl rfl)); replace HO_5 := zMk (hp_); replace HO_22 := zMk (Kd.V_afterv (v:=(.slice (some ⟨go23, 0, none⟩) x5_2.length co24)) (v1:=(.slice (some ⟨go23, 0, none⟩) x5_2.length co24)) (ok:=(fun k_ => ((P0_ k_ ∨ P1_ k_) ∨ w.heap.size ≤ k_))) (uV HO_22.out) hg (.inl rfl)); replace HO_29 := zMk (Kd.V_afterv (v:=(.slice (some ⟨go23, 0, none⟩) x5_2.length co24)) (v1:=(.slice (some ⟨go23, 0, none⟩) x5_2.length co24)) (ok:=(fun k_ => ((P0_ k_ ∨ P1_ k_) ∨ w.heap.size ≤ k_))) (uV HO_29.out) hg (.inl rfl)); replace HB := zMk ((by rw [hw]; exact below_set (HB.out) GB23.out : Below w.heap.size w w26)); clear hg hw hp_))
    go_roundg k2
    case measure => have := HK1.out; have := HK2.out; omega
    case rel => exact ⟨(y122), ((IntKind.u64.wrap ((IntKind.u64.wrap ((IntKind.u64.wrap ((IntKind.u64.wrap ((rd t107 x24_1))) * (IntKind.u64.wrap (rd t110 x31_2)))) + (IntKind.u64.wrap (rd x5_2 (ji20))))) + x8_2)) / 4294967296), (wrap64 (x31_2 + 1)), (by first | rfl | (simp; done) | (simp only [← hji20] <;> (first | rfl | simp)) | (simp [*]; done)), (by first | rfl | (simp; done) | (simp [*]; done)), H', ⟨by have := HK1.out; have := HK2.out; omega⟩, ⟨by exact uV HO_1.out⟩, ⟨by exact uR HO_5.out⟩, ⟨by exact uV HO_22.out⟩, ⟨by exact uV HO_29.out⟩, ⟨by exact uT HB.out⟩⟩
   ·rw [if_neg c17] at H
    have c17b0 : decide (x31_2 < (t110.length : Int)) = false := decide_eq_false c17
    clear c17
    obtain ⟨ji27, hji27⟩ : ∃ j_ : Int, (wrap64 (x24_1 + (t110.length : Int))) = j_ := ⟨_, rfl⟩
    replace H : (if 0 ≤ (ji27) then (if (ji27) < (x5_2.length : Int) then (n_Mul.l0 k2 t110 (x5_2.set ((ji27) : Int).toNat ((x8_2) % 4294967296)) t107 (t107.length : Int) (wrap64 (x24_1 + 1))) else (none)) else (none)) = some r := by first | (rw [hji27] at H; exact H) | (simp only [hji27] at H ⊢; exact H)
    have hji27w : (IntKind.i64.wrap (x24_1 + (t110.length : Int))) = ji27 := (i64_w _).trans hji27
    by_cases c28 : 0 ≤ (ji27)
    rotate_left
    ·rw [if_neg c28] at H; exact absurd H (by simp)
    rw [if_pos c28] at H
    have c28b0 : decide (0 ≤ (ji27)) = true := decide_eq_true c28
    clear c28
    by_cases c29 : (ji27) < (x5_2.length : Int)
    rotate_left
    ·rw [if_neg c29] at H; exact absurd H (by simp)
    rw [if_pos c29] at H
    have c29b0 : decide ((ji27) < (x5_2.length : Int)) = true := decide_eq_true c29
    clear c29
    obtain ⟨y123, hy123⟩ : ∃ y_ : List Int, y_ = (x5_2.set ((ji27) : Int).toNat ((x8_2) % 4294967296)) := ⟨_, rfl⟩
    replace H : (n_Mul.l0 k2 t110 y123 t107 (t107.length : Int) (wrap64 (x24_1 + 1))) = some r := by first | (rw [hy123]; with_reducible exact H) | (have H2_ := bsm H; first | (rw [hy123]; with_reducible exact H2_) | with_reducible exact H2_) | with_reducible exact H | (rw [hy123]; exact H) | exact H
    have Ny123 := zMk hy123
    clear hy123
    have H' := zMk H
    clear H
    have p30 : 0 ≤ ((ji27) : Int) := of_decide_eq_true (by assumption)
    have q30 : ((ji27) : Int) < ((x5_2.length : Int) : Int) := of_decide_eq_true (by assumption)
    obtain ⟨go30, co30, eo30, gb30, gl30, cl30, HG30⟩ := Kd.R_form HO_5.out (by omega)
    (first |  cases eo30|  (injection eo30 with ea_ en_ ec_; (first |  subst ea_|  (injection ea_ with ea_; subst ea_)); subst ec_; clear en_))
    have GB30 := zMk gb30
    have IGB30 := ownGe GB30.out
    have GG30 := zMk HG30
    clear gb30 gl30 HG30
    obtain ⟨hx30_0, hf30_0⟩ := Kd.R_celln 0 HO_5.out ((ji27) : Int) p30 q30
    replace p30 := eq_true p30
    replace q30 := eq_true q30
    have HP31 := Kd.R_putg HO_5.out ((ji27) : Int) ((x8_2) % 4294967296)
    go_wp2_with (first | ((with_reducible refine gate_store (t:=58) (p:=68) rfl ?_); refine store_event (t:=58) (p:=68) (v:=?vo_w32) (w1:=(wr.setCell ⟨go30, ((ji27) : Int).toNat, none⟩ (.int .u32 ((x8_2) % 4294967296)))) ?hg ?ho ?hn ?hr ?_; (case ho => rfl); (case hg => rfl); (case hn => rfl); (case hr => first | (go_simp; done)|(go_simp; rfl)|(go_simp; rw [show ∀ x : Int, IntKind.u32.wrap (IntKind.u8.wrap x) = x % 256 from fun x => (by show (x % 256) % 4294967296 = x % 256; omega)])); intro w32 hw; have hg : wr.grownBy w32 (some go30) := (by rw [hw]; exact HP31.2); have hp_ : Kd.R (Kd.int .u32) 58 w32 w.heap.size (fun k_ => (w.heap.size ≤ k_)) (.slice (some ⟨go30, 0, none⟩) x5_2.length co30) y123 := (by rw [hw, Ny123.out]; exact HP31.1); clear HP31; replace HO_1 := zMk (Kd.V_afterv (v:=(.slice (some ⟨go30, 0, none⟩) x5_2.length co30)) (v1:=(.slice (some ⟨go30, 0, none⟩) x5_2.length co30)) (ok:=(fun k_ => ((P0_ k_ ∨ P1_ k_) ∨ w.heap.size ≤ k_))) (uV HO_1.out) hg (.inl rfl)); replace HO_5 := zMk (hp_); replace HO_22 := zMk (Kd.V_afterv (v:=(.slice (some ⟨go30, 0, none⟩) x5_2.length co30)) (v1:=(.slice (some ⟨go30, 0, none⟩) x5_2.length co30)) (ok:=(fun k_ => ((P0_ k_ ∨ P1_ k_) ∨ w.heap.size ≤ k_))) (uV HO_22.out) hg (.inl rfl)); replace HO_29 := zMk (Kd.V_afterv (v:=(.slice (some ⟨go30, 0, none⟩) x5_2.length co30)) (v1:=(.slice (some ⟨go30, 0, none⟩) x5_2.length co30)) (ok:=(fun k_ => ((P0_ k_ ∨ P1_ k_) ∨ w.heap.size ≤ k_))) (uV HO_29.out) hg (.inl rfl)); replace HB := zMk ((by rw [hw]; exact below_set (HB.out) GB30.out : Below w.heap.size w w32)); clear hg hw hp_))
    go_roundg k2
    case measure => have := HK1.out; have := HK2.out; omega
    case rel => exact ⟨(y123), (wrap64 (x24_1 + 1)), (by first | rfl | (simp; done) | (simp [*]; done)), H', ⟨by have := HK1.out; have := HK2.out; omega⟩, ⟨by exact uV HO_1.out⟩, ⟨by exact uR HO_5.out⟩, ⟨by exact uV HO_22.out⟩, ⟨by exact uT HB.out⟩⟩
  ·rw [if_neg c14] at H
   have c14b0 : decide (x24_1 < (t107.length : Int)) = false := decide_eq_false c14
   clear c14
   replace H := bnd H
   obtain ⟨t116, A330, H⟩ := H
   have A33 := zMk A330
   clear A330
   obtain rfl := zOi H
   obtain ⟨Ao34, co34, eo34⟩ := zRs HO_5.out
   subst eo34
   go_wp2_with (first | ((with_reducible refine gate_callee (f:=56) rfl ?_); refine goesL_ (some 71) rfl rfl Tryd.func56 (by kernel_rfl) rfl #[.slice Ao34 x5_1.length co34] rfl (by (try simp only [zMa, zMc, zMn]); first |  done|  rfl|  (simp only [zLd, zLt]; rfl)) ?_; (with_reducible refine (n_cut.calls (fun k_ => some k_ = (.slice Ao34 x5_1.length co34 : Value).ownBlock) _ _ x5_1 t116 _ ?side1 A33.out).mono ?_); (case side1 => exact Kd.R_V (Kd.R_tight rfl (HO_5.out))); rintro e w35 ⟨v117, rfl, ho0, hb⟩; refine ⟨_, rfl, ?_⟩; replace HO_1 := zMk (zVb (uV HO_1.out) hb); replace HO_22 := zMk (zVb (uV HO_22.out) hb); have HO118 := zMk (zVl (zVm (ok' := fun k_ => ((P0_ k_ ∨ P1_ k_) ∨ w.heap.size ≤ k_)) ho0 (fun k_ hk_ => Or.elim hk_ (fun hs_ => (.inr (((HO_5.out).1 k_ hs_.symm)))) (fun hn_ => (.inr (Nat.le_trans (zBs (uT HB.out)) hn_))))) (zBs (uT HB.out))); replace HO_5 := zMk (zRb (uR HO_5.out) hb); replace HB := zMk (zBt (uT HB.out) hb)))
   go_ret
   exact ⟨_, by first | rfl | (simp [errW_none, errW_some] <;> rfl) | (simp only [← hji5]; first | rfl | (simp [errW_none, errW_some] <;> rfl)) | (simp [*, errW_none, errW_some] <;> rfl), by exact uV HO118.out, by exact uT HB.out⟩
 ·rw [if_neg c6] at H
  exact absurd H (by simp)



section
attribute [local go_sem] Oper.semAt_some
def smallN (rest x : Int) : Int := bits .or .u64 (IntKind.u64.wrap (rest * 4294967296)) (IntKind.u64.wrap x)
theorem smallN_range (rest x : Int) : 0 ≤ smallN rest x ∧ smallN rest x ≤ 18446744073709551615 := by
 unfold smallN bits
 simp only [IntKind.wrap_u64]
 omega
def smallStep (l : List Int) (b : Int) (s : List Int × Int) (i : Nat) : List Int × Int := (s.1.set i (smallN s.2 (rd l (i : Int)) / b % 4294967296), smallN s.2 (rd l (i : Int)) % b)
def smallIt (l : List Int) (b : Int) : Nat → List Int × Int
 | 0 => (List.replicate l.length 0, 0)
 | k + 1 => smallStep l b (smallIt l b k) (l.length - 1 - k)
theorem smallIt_length (l : List Int) (b : Int) : ∀ k, (smallIt l b k).1.length = l.length
 | 0 => by simp [smallIt]
 | k + 1 => by simp [smallIt, smallStep, smallIt_length l b k]
def smallOf (l : List Int) (b : Int) (pre : List { i : Nat // i < l.length }) : List Int × Int := pre.foldl (fun s x => smallStep l b s x.1) (List.replicate l.length 0, 0)
theorem smallOf_snoc (l : List Int) (b : Int) (pre : List { i : Nat // i < l.length }) (x : { i : Nat // i < l.length }) : smallOf l b (pre ++ [x]) = smallStep l b (smallOf l b pre) x.1 := by simp [smallOf]
theorem smallOf_bwd (l : List Int) (b : Int) : ∀ k h, smallOf l b (bwd l.length k h) = smallIt l b k
 | 0, _ => rfl
 | k + 1, h => by rw [bwd, smallOf_snoc, smallOf_bwd l b k]; rfl
theorem smallOf_length (l : List Int) (b : Int) (pre : List { i : Nat // i < l.length }) : (smallOf l b pre).1.length = l.length := by
 unfold smallOf
 suffices h : ∀ s : List Int × Int, s.1.length = l.length → (pre.foldl (fun s x => smallStep l b s x.1) s).1.length = l.length from h _ (by simp)
 induction pre with
 | nil => exact fun s h => h
 | cons x pre ih => exact fun s h => ih _ (by simp [smallStep, h])
def n_small.f (l0 : List Int) (a1 : Int) : Option (List Int × Int) :=
 if l0.length ≤ 35184372088832 then if IntKind.u64.wrap a1 = 0 then none else some ((smallIt l0 (IntKind.u64.wrap a1) l0.length).1.take (cutLen (smallIt l0 (IntKind.u64.wrap a1) l0.length).1 l0.length), (smallIt l0 (IntKind.u64.wrap a1) l0.length).2 % 4294967296) else none
theorem keepCells {A B : World} {row : Option Nat} {g : Nat} {cs : Array Value} {t : TypeId} (h : A.heap[g]? = some (.cells cs t (0, 0))) (hg : A.grownBy B row) (hr : ∀ r, row = some r → ∃ o : Obj, A.heap[r]? = some o ∧ o.isCells = false) : B.heap[g]? = some (.cells cs t (0, 0)) :=
 (hg.block g (Array.getElem?_eq_some_iff.1 h).1 (fun e => by obtain ⟨o, ho, hc⟩ := hr _ e.symm; rw [h] at ho; cases ho; simp [Obj.isCells] at hc)).trans h
theorem C_of_block {W : World} {g : Nat} {t : TypeId} {k : IntKind} {xs : List Int} (h : W.heap[g]? = some (.cells (xs.map (Value.int k)).toArray t (0, 0))) (hm : xs.length ≤ 9223372036854775807) : Kd.C (Kd.int k) W (some ⟨g, 0, none⟩) xs.length xs := by
 refine ⟨rfl, hm, fun _ => ⟨⟨g, 0, none⟩, rfl, fun j p hj => ⟨[.int k p], rfl, rfl, fun i u hi => ?_⟩⟩⟩
 have hi0 : i = 0 := by
  have := (List.getElem?_eq_some_iff.1 hi).1
  simp at this
  omega
 subst hi0
 have hu : Value.int k p = u := by simpa using hi
 subst hu
 have hz : (Kd.int k).sz = 1 := rfl
 rw [hz, Nat.mul_one, Nat.add_zero, add_plain]
 simp [World.cell?, h, hj]
theorem n_small.calls (A0 : Option Addr) (c0 : Nat) (l0 : List Int) (a1 : Int) (r1 : List Int) (r2 : Int) (w : World) (hr0 : Kd.C (Kd.int .u32) w A0 l0.length l0) (hc0 : l0.length ≤ c0) (h : n_small.f l0 a1 = some (r1, r2)) :
  Calls Tryd.prog 58 #[.slice A0 l0.length c0, .int .u32 a1] w fun e w' => ∃ v0_ : Value, e = .returned (.tuple #[v0_, .int .u32 r2]) ∧ Kd.V (Kd.int .u32) 58 w' w.heap.size (fun k_ => (w.heap.size ≤ k_)) v0_ r1 ∧ Below w.heap.size w w' := by
 have HR0 := zMk hr0
 have HC0 := zMk hc0
 have HH := zMk h
 clear hr0 hc0 h
 have hm0 := HR0.out.2.1
 have hlim : l0.length ≤ 35184372088832 := by
  have h2 := HH.out
  unfold n_small.f at h2
  split at h2
  ·assumption
  ·cases h2
 have ha1 : IntKind.u64.wrap a1 ≠ 0 := by
  have h2 := HH.out
  unfold n_small.f at h2
  rw [if_pos hlim] at h2
  intro h3
  rw [if_pos h3] at h2
  cases h2
 obtain ⟨B, hBe⟩ : ∃ B, IntKind.u64.wrap a1 = B := ⟨_, rfl⟩
 have hBr : 1 ≤ B ∧ B ≤ 18446744073709551615 := by
  rw [← hBe]
  rw [IntKind.wrap_u64] at ha1 ⊢
  omega
 have HBE := zMk hBe
 clear ha1 hBe
 have hlim0 : decide (0 ≤ (l0.length : Int)) = true := decide_eq_true (by omega)
 refine (callsIn_wide (n:=3)).1 ?_
 refine callsIn_of_wp_marks Tryd.func58 rfl trivial ?_ rfl
 refine wpIn_wide.2 ?_
 simp only [Tryd.ntmps58, List.size_toArray, zLc, zLn, Nat.reduceAdd, Nat.reduceSub, Array.replicate_succ, Array.replicate_zero, List.push_toArray, List.append_toArray, List.nil_append, List.cons_append]
 have hmk := print_make (P:=Tryd.prog) 22 58 .u32 4 Tryd.underlying22 info58 (by omega) l0.length (by omega)
 go_wp2_with (go_at_call 71; refine (slices_Backward_uint32_uint32.calls _ _ _ _).mono ?_; rintro e w' ⟨rfl, rfl⟩)
 have hB0 : Below w.heap.size w (((((w.alloc (.cells #[.int .u32 a1] 58)).alloc (.cells (madeCells #[.int .u32 0] l0.length) 58)).alloc (.cells #[.slice (some ⟨w.heap.size + 1, 0, none⟩) l0.length l0.length] 22)).alloc (.cells #[.int .u64 0] 47)).alloc (.cells #[.slice A0 l0.length c0] 22)) :=
  (((((Below.refl _ w).alloc (Nat.le_refl _) _).alloc (by simp) _).alloc (by simp <;> omega) _).alloc (by simp <;> omega) _).alloc (by simp <;> omega) _
 have hz0 : (((((w.alloc (.cells #[.int .u32 a1] 58)).alloc (.cells (madeCells #[.int .u32 0] l0.length) 58)).alloc (.cells #[.slice (some ⟨w.heap.size + 1, 0, none⟩) l0.length l0.length] 22)).alloc (.cells #[.int .u64 0] 47)).alloc (.cells #[.slice A0 l0.length c0] 22)).heap.size = w.heap.size + 5 := by simp
 have b0 : (((((w.alloc (.cells #[.int .u32 a1] 58)).alloc (.cells (madeCells #[.int .u32 0] l0.length) 58)).alloc (.cells #[.slice (some ⟨w.heap.size + 1, 0, none⟩) l0.length l0.length] 22)).alloc (.cells #[.int .u64 0] 47)).alloc (.cells #[.slice A0 l0.length c0] 22)).heap[w.heap.size]? = some (.cells #[.int .u32 a1] 58 (0, 0)) := by
  rw [Below.heap_alloc _ _ _ (by simp <;> omega), Below.heap_alloc _ _ _ (by simp <;> omega), Below.heap_alloc _ _ _ (by simp <;> omega), Below.heap_alloc _ _ _ (by simp)]; exact World.alloc_heap_new _ _
 have b1 : (((((w.alloc (.cells #[.int .u32 a1] 58)).alloc (.cells (madeCells #[.int .u32 0] l0.length) 58)).alloc (.cells #[.slice (some ⟨w.heap.size + 1, 0, none⟩) l0.length l0.length] 22)).alloc (.cells #[.int .u64 0] 47)).alloc (.cells #[.slice A0 l0.length c0] 22)).heap[w.heap.size + 1]? = some (.cells ((List.replicate l0.length (0 : Int)).map (Value.int .u32)).toArray 58 (0, 0)) := by
  rw [Below.heap_alloc _ _ _ (by simp <;> omega), Below.heap_alloc _ _ _ (by simp <;> omega), Below.heap_alloc _ _ _ (by simp)]
  have hl : ((List.replicate l0.length (0 : Int)).map (Value.int .u32)).toArray = madeCells #[Value.int .u32 0] l0.length := by
   apply Array.ext
   ·simp [madeCells]
   ·intro i h1 h2
    simp [madeCells, Nat.mod_one]
  have := World.alloc_heap_new (w.alloc (.cells #[.int .u32 a1] 58)) (.cells (madeCells #[.int .u32 0] l0.length) 58)
  rw [World.size_alloc] at this
  rw [hl]
  exact this
 have b2 : (((((w.alloc (.cells #[.int .u32 a1] 58)).alloc (.cells (madeCells #[.int .u32 0] l0.length) 58)).alloc (.cells #[.slice (some ⟨w.heap.size + 1, 0, none⟩) l0.length l0.length] 22)).alloc (.cells #[.int .u64 0] 47)).alloc (.cells #[.slice A0 l0.length c0] 22)).heap[w.heap.size + 1 + 1]? = some (.cells #[.slice (some ⟨w.heap.size + 1, 0, none⟩) l0.length l0.length] 22 (0, 0)) := by
  rw [Below.heap_alloc _ _ _ (by simp <;> omega), Below.heap_alloc _ _ _ (by simp)]
  have := World.alloc_heap_new ((w.alloc (.cells #[.int .u32 a1] 58)).alloc (.cells (madeCells #[.int .u32 0] l0.length) 58)) (.cells #[.slice (some ⟨w.heap.size + 1, 0, none⟩) l0.length l0.length] 22)
  rw [World.size_alloc, World.size_alloc] at this
  exact this
 have b3 : (((((w.alloc (.cells #[.int .u32 a1] 58)).alloc (.cells (madeCells #[.int .u32 0] l0.length) 58)).alloc (.cells #[.slice (some ⟨w.heap.size + 1, 0, none⟩) l0.length l0.length] 22)).alloc (.cells #[.int .u64 0] 47)).alloc (.cells #[.slice A0 l0.length c0] 22)).heap[w.heap.size + 1 + 1 + 1]? = some (.cells #[.int .u64 0] 47 (0, 0)) := by
  rw [Below.heap_alloc _ _ _ (by simp)]
  have := World.alloc_heap_new (((w.alloc (.cells #[.int .u32 a1] 58)).alloc (.cells (madeCells #[.int .u32 0] l0.length) 58)).alloc (.cells #[.slice (some ⟨w.heap.size + 1, 0, none⟩) l0.length l0.length] 22)) (.cells #[.int .u64 0] 47)
  rw [World.size_alloc, World.size_alloc, World.size_alloc] at this
  exact this
 have b4 : (((((w.alloc (.cells #[.int .u32 a1] 58)).alloc (.cells (madeCells #[.int .u32 0] l0.length) 58)).alloc (.cells #[.slice (some ⟨w.heap.size + 1, 0, none⟩) l0.length l0.length] 22)).alloc (.cells #[.int .u64 0] 47)).alloc (.cells #[.slice A0 l0.length c0] 22)).cell? ⟨w.heap.size + 1 + 1 + 1 + 1, 0, none⟩ = some (.slice A0 l0.length c0) := by
  have := Boxed.new ((((w.alloc (.cells #[.int .u32 a1] 58)).alloc (.cells (madeCells #[.int .u32 0] l0.length) 58)).alloc (.cells #[.slice (some ⟨w.heap.size + 1, 0, none⟩) l0.length l0.length] 22)).alloc (.cells #[.int .u64 0] 47)) 22 (.slice A0 l0.length c0)
  rw [World.size_alloc, World.size_alloc, World.size_alloc, World.size_alloc] at this
  exact this.cell
 clear hmk
 generalize (((((w.alloc (.cells #[.int .u32 a1] 58)).alloc (.cells (madeCells #[.int .u32 0] l0.length) 58)).alloc (.cells #[.slice (some ⟨w.heap.size + 1, 0, none⟩) l0.length l0.length] 22)).alloc (.cells #[.int .u64 0] 47)).alloc (.cells #[.slice A0 l0.length c0] 22)) = W3 at hB0 hz0 b0 b1 b2 b3 b4 ⊢
 have hF0 : Kd.F (Kd.int .u32) W3 (fun k => k < w.heap.size ∨ k = w.heap.size + 1 + 1 + 1 + 1) A0 l0.length l0 := Kd.F_mono (Kd.F_step (Kd.C_F (Kd.heap_int .u32) HR0.out) (fun k hk _ => hB0.block k hk)) (fun k hk => .inl hk)
 refine (wpIn_wide (n:=3)).1 ?_
 refine wpIn_rangeFunc_ownG (n:=3) rfl (by omega) (gf:=82) (lb:=#[.pointer (some ⟨w.heap.size + 1 + 1 + 1 + 1, 0, none⟩)]) rfl trivial (enters_of Tryd.func82 (by kernel_rfl) rfl)
   (slices_Backward_uint32_uint32.stops Fence.wide 2 trivial rfl (by omega) (w.heap.size + 1 + 1 + 1 + 1) c0 A0 l0 HC0.out (fun k => k < w.heap.size ∨ k = w.heap.size + 1 + 1 + 1 + 1) (.inr rfl) _ (fun k hk => by rw [hz0]; omega) b4 hF0)
   KeepOk.trans (KeepOk.turn (fun k hk => by rw [hz0]; omega)) (Below.refl _ _) (fun _ => rfl)
   (fun pre W => (W.heap[w.heap.size]? = some (.cells #[.int .u32 a1] 58 (0, 0)) ∧ W.heap[w.heap.size + 1]? = some (.cells ((smallOf l0 B pre).1.map (Value.int .u32)).toArray 58 (0, 0)) ∧ W.heap[w.heap.size + 1 + 1]? = some (.cells #[.slice (some ⟨w.heap.size + 1, 0, none⟩) l0.length l0.length] 22 (0, 0)) ∧ W.heap[w.heap.size + 1 + 1 + 1]? = some (.cells #[.int .u64 (smallOf l0 B pre).2] 47 (0, 0))) ∧ Below w.heap.size w W)
   (fun _ _ _ => False)
   (OwnFrom.and (Own.from (fun s A B row hs hg hr => ⟨keepCells hs.1 hg hr, keepCells hs.2.1 hg hr, keepCells hs.2.2.1 hg hr, keepCells hs.2.2.2 hg hr⟩) _) (ownFrom_below (Nat.le_refl _) (by rw [hz0]; omega)))
   (fun _ _ _ _ _ hs _ _ => hs)
   ⟨⟨b0, b1, b2, b3⟩, hB0⟩
   (fun x => { tmps := #[.slice A0 l0.length c0, .int .u32 a1, undef, .pointer (some ⟨w.heap.size, 0, none⟩), .slice none 0 0, .int .u32 0, .pointer (some ⟨w.heap.size + 1 + 1, 0, none⟩), .pointer (some ⟨w.heap.size + 1 + 1 + 1, 0, none⟩), .int .i64 (x.1 : Int), .int .u32 (rd l0 (x.1 : Int)), undef, .slice A0 l0.length c0, .int .i64 l0.length, .slice (some ⟨w.heap.size + 1, 0, none⟩) l0.length l0.length, .slice A0 l0.length c0, .func (.func 82) #[] #[.pointer (some ⟨w.heap.size + 1 + 1 + 1 + 1, 0, none⟩)], .int .i64 (x.1 : Int), .int .u32 (rd l0 (x.1 : Int)), undef, undef, undef, undef, undef, undef, undef, undef, undef, undef, undef, undef, undef, undef, undef, undef, undef, undef, undef, undef, undef], defers := [] }) ?assign ?body ?done ?stop
 case assign =>
  intro l x W K hK
  gi_wp2
  exact hK
 case body =>
  rintro l pre ⟨x, hx⟩ W ⟨⟨h0, h1, h2, h3⟩, hB⟩ hlen
  have c0_ : W.cell? ⟨w.heap.size, 0, none⟩ = some (.int .u32 a1) := Boxed.cell h0
  have c2_ : W.cell? ⟨w.heap.size + 1 + 1, 0, none⟩ = some (.slice (some ⟨w.heap.size + 1, 0, none⟩) l0.length l0.length) := Boxed.cell h2
  have c3_ : W.cell? ⟨w.heap.size + 1 + 1 + 1, 0, none⟩ = some (.int .u64 (smallOf l0 B pre).2) := Boxed.cell h3
  have f3_ : W.frozen? ⟨w.heap.size + 1 + 1 + 1, 0, none⟩ = false := Boxed.frozen h3
  have hc1 : W.cell? ⟨w.heap.size + 1, x, none⟩ = some (.int .u32 ((smallOf l0 B pre).1.getD x 0)) := by
   have := smallOf_length l0 B pre
   simp [World.cell?, h1, List.getElem?_eq_getElem (show x < (smallOf l0 B pre).1.length by omega), List.getD_eq_getElem?_getD]
  have hf1 : W.frozen? ⟨w.heap.size + 1, x, none⟩ = false := by simp [World.frozen?, h1]
  have hx4 : decide ((x : Int) < (l0.length : Int)) = true := decide_eq_true (by omega)
  have hBz : (B == 0) = false := beq_eq_false_iff_ne.mpr (by omega)
  have hBn : ¬ (B = 0) := by omega
  have hBe := HBE.out
  obtain ⟨N, hN⟩ : ∃ N, smallN (smallOf l0 B pre).2 (rd l0 (x : Int)) = N := ⟨_, rfl⟩
  have hNr := smallN_range (smallOf l0 B pre).2 (rd l0 (x : Int))
  rw [hN] at hNr
  obtain ⟨hN0, hN1⟩ := hNr
  obtain ⟨hB1, hB2⟩ := hBr
  have HN := zMk hN
  have hNb : bits .or .u64 (IntKind.u64.wrap ((smallOf l0 B pre).2 * 4294967296)) (IntKind.u64.wrap (rd l0 (x : Int))) = N := hN
  clear hN
  gi_wp2
  refine region_round (fun a' w' => a' = ({ tmps := #[.slice A0 l0.length c0, .int .u32 a1, undef, .pointer (some ⟨w.heap.size, 0, none⟩), .slice none 0 0, .int .u32 0, .pointer (some ⟨w.heap.size + 1 + 1, 0, none⟩), .pointer (some ⟨w.heap.size + 1 + 1 + 1, 0, none⟩), .int .i64 (x : Int), .int .u32 (rd l0 (x : Int)), .int .u64 N, .slice A0 l0.length c0, .int .i64 l0.length, .slice (some ⟨w.heap.size + 1, 0, none⟩) l0.length l0.length, .slice A0 l0.length c0, .func (.func 82) #[] #[.pointer (some ⟨w.heap.size + 1 + 1 + 1 + 1, 0, none⟩)], .int .i64 (x : Int), .int .u32 (rd l0 (x : Int)), .int .u64 (smallOf l0 B pre).2, .int .u64 (IntKind.u64.wrap ((smallOf l0 B pre).2 * 4294967296)), .int .u32 (rd l0 (x : Int)), .int .u64 (IntKind.u64.wrap (rd l0 (x : Int))), .int .u64 N, .slice (some ⟨w.heap.size + 1, 0, none⟩) l0.length l0.length, .int .i64 (x : Int), .int .u64 N, .int .u32 a1, .int .u64 B, .int .u64 (N / B), .int .u32 (N / B % 4294967296), .int .u64 N, .int .u32 a1, .int .u64 B, .int .u64 (N % B), .pointer (some ⟨w.heap.size + 1, x, none⟩), undef, undef, undef, undef], defers := [] } : Act) ∧ w' = ((W.setCell ⟨w.heap.size + 1, x, none⟩ (.int .u32 (N / B % 4294967296))).setCell ⟨w.heap.size + 1 + 1 + 1, 0, none⟩ (.int .u64 (N % B))).drew) (by kernel_rfl) (by kernel_rfl) ?reg ?cont
  case reg =>
   have hq0 : 0 ≤ N / B := Int.ediv_nonneg hN0 (by omega)
   have hq1 : N / B ≤ 18446744073709551615 := Int.le_trans (Int.ediv_le_self _ hN0) hN1
   have hs1 : IntKind.u64.wrap (N.tdiv B) = N / B := by rw [Int.tdiv_eq_ediv_of_nonneg hN0, IntKind.wrap_u64]; omega
   have hs2 : N.tmod B = N % B := Int.tmod_eq_emod_of_nonneg hN0
   have hs3 : IntKind.u32.wrap (N / B) = N / B % 4294967296 := IntKind.wrap_u32 _
   generalize smallOf l0 B pre = sst at *
   generalize w.heap.size = hs at *
   clear HR0 HC0 HH hlim0 HBE hB0 hz0 b0 b1 b2 b3 b4 hF0 h0 h1 h2 h3 hB hlen HN hNb
   simp only [List.size_toArray, zLc, zLn, Nat.reduceAdd, Array.replicate_succ, Array.replicate_zero, List.push_toArray, List.nil_append, List.cons_append]
   refine wpAny_take (i:=1) (v:=.int .i64 (x : Int)) rfl (by kernel_rfl) (by kernel_rfl) (by kernel_rfl) (fun _ _ _ h => by cases h.1) (Or.inl ⟨by rfl, fun w => by go_simp⟩) ?_
   refine wpAny_take (i:=2) (v:=.int .u64 N) rfl (by kernel_rfl) (by kernel_rfl) (by kernel_rfl) (fun _ _ _ h => by cases h.1) (Or.inl ⟨by rfl, fun w => by go_simp⟩) ?_
   refine wpAny_take (i:=7) (v:=.int .u64 N) rfl (by kernel_rfl) (by kernel_rfl) (by kernel_rfl) (fun _ _ _ h => by cases h.1) (Or.inl ⟨by rfl, fun w => by go_simp⟩) ?_
   refine wpAny_ready (rs:=[0, 3, 8]) (by kernel_rfl) (by simp) ?_
   refine AllReady.cons rfl (fun K hK => ?_) ?_
   ·go_simp
    refine hK _ _ ?_
    clear hK K
    refine wpAny_ready (rs:=[3, 8]) (by kernel_rfl) (by simp) ?_
    refine AllReady.cons rfl (fun K hK => ?_) ?_
    ·go_simp
     refine hK _ _ ?_
     clear hK K
     refine wpAny_take (i:=4) (v:=.int .u64 B) rfl (by kernel_rfl) (by kernel_rfl) (by kernel_rfl) (fun _ _ _ h => by cases h.1) (Or.inl ⟨by rfl, fun w => by go_simp⟩) ?_
     refine wpAny_take (i:=5) (v:=.int .u64 (N / B)) rfl (by kernel_rfl) (by kernel_rfl) (by kernel_rfl) (fun _ _ _ h => by cases h.1) (Or.inl ⟨by rfl, fun w => by go_simp⟩) ?_
     refine wpAny_take (i:=6) (v:=.int .u32 (N / B % 4294967296)) rfl (by kernel_rfl) (by kernel_rfl) (by kernel_rfl) (fun _ _ _ h => by cases h.1) (Or.inl ⟨by rfl, fun w => by go_simp⟩) ?_
     refine wpAny_take (i:=11) (v:=.pointer (some ⟨hs + 1, x, none⟩)) rfl (by kernel_rfl) (by kernel_rfl) (by kernel_rfl) (fun _ _ _ h => by cases h.1) (Or.inl ⟨by rfl, fun w => by go_simp⟩) ?_
     refine wpAny_ready (rs:=[8, 12]) (by kernel_rfl) (by simp) ?_
     refine AllReady.cons rfl (fun K hK => ?_) ?_
     ·go_simp
      refine hK _ _ ?_
      clear hK K
      refine wpAny_take (i:=9) (v:=.int .u64 B) rfl (by kernel_rfl) (by kernel_rfl) (by kernel_rfl) (fun _ _ _ h => by cases h.1) (Or.inl ⟨by rfl, fun w => by go_simp⟩) ?_
      refine wpAny_take (i:=10) (v:=.int .u64 (N % B)) rfl (by kernel_rfl) (by kernel_rfl) (by kernel_rfl) (fun _ _ _ h => by cases h.1) (Or.inl ⟨by rfl, fun w => by go_simp⟩) ?_
      refine wpAny_ready (rs:=[12]) (by kernel_rfl) (by simp) ?_
      refine AllReady.cons rfl (fun K hK => ?_) ?_
      ·go_simp
       refine hK _ _ ?_
       clear hK K
       refine wpAny_ready (rs:=[13]) (by kernel_rfl) (by simp) ?_
       refine AllReady.cons rfl (fun K hK => ?_) ?_
       ·go_simp
        refine hK _ _ ?_
        clear hK K
        refine wpAny_done (by kernel_rfl) ?_ _
        exact ⟨rfl, rfl, rfl⟩
       exact AllReady.nil
      exact AllReady.nil
     refine AllReady.cons rfl (fun K hK => ?_) ?_
     ·go_simp
      refine hK _ _ ?_
      clear hK K
      refine wpAny_ready (rs:=[8]) (by kernel_rfl) (by simp) ?_
      refine AllReady.cons rfl (fun K hK => ?_) ?_
      ·go_simp
       refine hK _ _ ?_
       clear hK K
       refine wpAny_take (i:=9) (v:=.int .u64 B) rfl (by kernel_rfl) (by kernel_rfl) (by kernel_rfl) (fun _ _ _ h => by cases h.1) (Or.inl ⟨by rfl, fun w => by go_simp⟩) ?_
       refine wpAny_take (i:=10) (v:=.int .u64 (N % B)) rfl (by kernel_rfl) (by kernel_rfl) (by kernel_rfl) (fun _ _ _ h => by cases h.1) (Or.inl ⟨by rfl, fun w => by go_simp⟩) ?_
       refine wpAny_ready (rs:=[13]) (by kernel_rfl) (by simp) ?_
       refine AllReady.cons rfl (fun K hK => ?_) ?_
       ·go_simp
        refine hK _ _ ?_
        clear hK K
        refine wpAny_done (by kernel_rfl) ?_ _
        exact ⟨rfl, rfl, rfl⟩
       exact AllReady.nil
      exact AllReady.nil
     exact AllReady.nil
    refine AllReady.cons rfl (fun K hK => ?_) ?_
    ·go_simp
     refine hK _ _ ?_
     clear hK K
     refine wpAny_take (i:=9) (v:=.int .u64 B) rfl (by kernel_rfl) (by kernel_rfl) (by kernel_rfl) (fun _ _ _ h => by cases h.1) (Or.inl ⟨by rfl, fun w => by go_simp⟩) ?_
     refine wpAny_take (i:=10) (v:=.int .u64 (N % B)) rfl (by kernel_rfl) (by kernel_rfl) (by kernel_rfl) (fun _ _ _ h => by cases h.1) (Or.inl ⟨by rfl, fun w => by go_simp⟩) ?_
     refine wpAny_ready (rs:=[3]) (by kernel_rfl) (by simp) ?_
     refine AllReady.cons rfl (fun K hK => ?_) ?_
     ·go_simp
      refine hK _ _ ?_
      clear hK K
      refine wpAny_take (i:=4) (v:=.int .u64 B) rfl (by kernel_rfl) (by kernel_rfl) (by kernel_rfl) (fun _ _ _ h => by cases h.1) (Or.inl ⟨by rfl, fun w => by go_simp⟩) ?_
      refine wpAny_take (i:=5) (v:=.int .u64 (N / B)) rfl (by kernel_rfl) (by kernel_rfl) (by kernel_rfl) (fun _ _ _ h => by cases h.1) (Or.inl ⟨by rfl, fun w => by go_simp⟩) ?_
      refine wpAny_take (i:=6) (v:=.int .u32 (N / B % 4294967296)) rfl (by kernel_rfl) (by kernel_rfl) (by kernel_rfl) (fun _ _ _ h => by cases h.1) (Or.inl ⟨by rfl, fun w => by go_simp⟩) ?_
      refine wpAny_take (i:=11) (v:=.pointer (some ⟨hs + 1, x, none⟩)) rfl (by kernel_rfl) (by kernel_rfl) (by kernel_rfl) (fun _ _ _ h => by cases h.1) (Or.inl ⟨by rfl, fun w => by go_simp⟩) ?_
      refine wpAny_ready (rs:=[12]) (by kernel_rfl) (by simp) ?_
      refine AllReady.cons rfl (fun K hK => ?_) ?_
      ·go_simp
       refine hK _ _ ?_
       clear hK K
       refine wpAny_ready (rs:=[13]) (by kernel_rfl) (by simp) ?_
       refine AllReady.cons rfl (fun K hK => ?_) ?_
       ·go_simp
        refine hK _ _ ?_
        clear hK K
        refine wpAny_done (by kernel_rfl) ?_ _
        exact ⟨rfl, rfl, rfl⟩
       exact AllReady.nil
      exact AllReady.nil
     exact AllReady.nil
    exact AllReady.nil
   refine AllReady.cons rfl (fun K hK => ?_) ?_
   ·go_simp
    refine hK _ _ ?_
    clear hK K
    refine wpAny_take (i:=4) (v:=.int .u64 B) rfl (by kernel_rfl) (by kernel_rfl) (by kernel_rfl) (fun _ _ _ h => by cases h.1) (Or.inl ⟨by rfl, fun w => by go_simp⟩) ?_
    refine wpAny_take (i:=5) (v:=.int .u64 (N / B)) rfl (by kernel_rfl) (by kernel_rfl) (by kernel_rfl) (fun _ _ _ h => by cases h.1) (Or.inl ⟨by rfl, fun w => by go_simp⟩) ?_
    refine wpAny_take (i:=6) (v:=.int .u32 (N / B % 4294967296)) rfl (by kernel_rfl) (by kernel_rfl) (by kernel_rfl) (fun _ _ _ h => by cases h.1) (Or.inl ⟨by rfl, fun w => by go_simp⟩) ?_
    refine wpAny_ready (rs:=[0, 8]) (by kernel_rfl) (by simp) ?_
    refine AllReady.cons rfl (fun K hK => ?_) ?_
    ·go_simp
     refine hK _ _ ?_
     clear hK K
     refine wpAny_take (i:=11) (v:=.pointer (some ⟨hs + 1, x, none⟩)) rfl (by kernel_rfl) (by kernel_rfl) (by kernel_rfl) (fun _ _ _ h => by cases h.1) (Or.inl ⟨by rfl, fun w => by go_simp⟩) ?_
     refine wpAny_ready (rs:=[8, 12]) (by kernel_rfl) (by simp) ?_
     refine AllReady.cons rfl (fun K hK => ?_) ?_
     ·go_simp
      refine hK _ _ ?_
      clear hK K
      refine wpAny_take (i:=9) (v:=.int .u64 B) rfl (by kernel_rfl) (by kernel_rfl) (by kernel_rfl) (fun _ _ _ h => by cases h.1) (Or.inl ⟨by rfl, fun w => by go_simp⟩) ?_
      refine wpAny_take (i:=10) (v:=.int .u64 (N % B)) rfl (by kernel_rfl) (by kernel_rfl) (by kernel_rfl) (fun _ _ _ h => by cases h.1) (Or.inl ⟨by rfl, fun w => by go_simp⟩) ?_
      refine wpAny_ready (rs:=[12]) (by kernel_rfl) (by simp) ?_
      refine AllReady.cons rfl (fun K hK => ?_) ?_
      ·go_simp
       refine hK _ _ ?_
       clear hK K
       refine wpAny_ready (rs:=[13]) (by kernel_rfl) (by simp) ?_
       refine AllReady.cons rfl (fun K hK => ?_) ?_
       ·go_simp
        refine hK _ _ ?_
        clear hK K
        refine wpAny_done (by kernel_rfl) ?_ _
        exact ⟨rfl, rfl, rfl⟩
       exact AllReady.nil
      exact AllReady.nil
     refine AllReady.cons rfl (fun K hK => ?_) ?_
     ·go_simp
      refine hK _ _ ?_
      clear hK K
      refine wpAny_ready (rs:=[8]) (by kernel_rfl) (by simp) ?_
      refine AllReady.cons rfl (fun K hK => ?_) ?_
      ·go_simp
       refine hK _ _ ?_
       clear hK K
       refine wpAny_take (i:=9) (v:=.int .u64 B) rfl (by kernel_rfl) (by kernel_rfl) (by kernel_rfl) (fun _ _ _ h => by cases h.1) (Or.inl ⟨by rfl, fun w => by go_simp⟩) ?_
       refine wpAny_take (i:=10) (v:=.int .u64 (N % B)) rfl (by kernel_rfl) (by kernel_rfl) (by kernel_rfl) (fun _ _ _ h => by cases h.1) (Or.inl ⟨by rfl, fun w => by go_simp⟩) ?_
       refine wpAny_ready (rs:=[13]) (by kernel_rfl) (by simp) ?_
       refine AllReady.cons rfl (fun K hK => ?_) ?_
       ·go_simp
        refine hK _ _ ?_
        clear hK K
        refine wpAny_done (by kernel_rfl) ?_ _
        exact ⟨rfl, rfl, rfl⟩
       exact AllReady.nil
      exact AllReady.nil
     exact AllReady.nil
    refine AllReady.cons rfl (fun K hK => ?_) ?_
    ·go_simp
     refine hK _ _ ?_
     clear hK K
     refine wpAny_take (i:=9) (v:=.int .u64 B) rfl (by kernel_rfl) (by kernel_rfl) (by kernel_rfl) (fun _ _ _ h => by cases h.1) (Or.inl ⟨by rfl, fun w => by go_simp⟩) ?_
     refine wpAny_take (i:=10) (v:=.int .u64 (N % B)) rfl (by kernel_rfl) (by kernel_rfl) (by kernel_rfl) (fun _ _ _ h => by cases h.1) (Or.inl ⟨by rfl, fun w => by go_simp⟩) ?_
     refine wpAny_ready (rs:=[0]) (by kernel_rfl) (by simp) ?_
     refine AllReady.cons rfl (fun K hK => ?_) ?_
     ·go_simp
      refine hK _ _ ?_
      clear hK K
      refine wpAny_take (i:=11) (v:=.pointer (some ⟨hs + 1, x, none⟩)) rfl (by kernel_rfl) (by kernel_rfl) (by kernel_rfl) (fun _ _ _ h => by cases h.1) (Or.inl ⟨by rfl, fun w => by go_simp⟩) ?_
      refine wpAny_ready (rs:=[12]) (by kernel_rfl) (by simp) ?_
      refine AllReady.cons rfl (fun K hK => ?_) ?_
      ·go_simp
       refine hK _ _ ?_
       clear hK K
       refine wpAny_ready (rs:=[13]) (by kernel_rfl) (by simp) ?_
       refine AllReady.cons rfl (fun K hK => ?_) ?_
       ·go_simp
        refine hK _ _ ?_
        clear hK K
        refine wpAny_done (by kernel_rfl) ?_ _
        exact ⟨rfl, rfl, rfl⟩
       exact AllReady.nil
      exact AllReady.nil
     exact AllReady.nil
    exact AllReady.nil
   refine AllReady.cons rfl (fun K hK => ?_) ?_
   ·go_simp
    refine hK _ _ ?_
    clear hK K
    refine wpAny_take (i:=9) (v:=.int .u64 B) rfl (by kernel_rfl) (by kernel_rfl) (by kernel_rfl) (fun _ _ _ h => by cases h.1) (Or.inl ⟨by rfl, fun w => by go_simp⟩) ?_
    refine wpAny_take (i:=10) (v:=.int .u64 (N % B)) rfl (by kernel_rfl) (by kernel_rfl) (by kernel_rfl) (fun _ _ _ h => by cases h.1) (Or.inl ⟨by rfl, fun w => by go_simp⟩) ?_
    refine wpAny_ready (rs:=[0, 3]) (by kernel_rfl) (by simp) ?_
    refine AllReady.cons rfl (fun K hK => ?_) ?_
    ·go_simp
     refine hK _ _ ?_
     clear hK K
     refine wpAny_ready (rs:=[3]) (by kernel_rfl) (by simp) ?_
     refine AllReady.cons rfl (fun K hK => ?_) ?_
     ·go_simp
      refine hK _ _ ?_
      clear hK K
      refine wpAny_take (i:=4) (v:=.int .u64 B) rfl (by kernel_rfl) (by kernel_rfl) (by kernel_rfl) (fun _ _ _ h => by cases h.1) (Or.inl ⟨by rfl, fun w => by go_simp⟩) ?_
      refine wpAny_take (i:=5) (v:=.int .u64 (N / B)) rfl (by kernel_rfl) (by kernel_rfl) (by kernel_rfl) (fun _ _ _ h => by cases h.1) (Or.inl ⟨by rfl, fun w => by go_simp⟩) ?_
      refine wpAny_take (i:=6) (v:=.int .u32 (N / B % 4294967296)) rfl (by kernel_rfl) (by kernel_rfl) (by kernel_rfl) (fun _ _ _ h => by cases h.1) (Or.inl ⟨by rfl, fun w => by go_simp⟩) ?_
      refine wpAny_take (i:=11) (v:=.pointer (some ⟨hs + 1, x, none⟩)) rfl (by kernel_rfl) (by kernel_rfl) (by kernel_rfl) (fun _ _ _ h => by cases h.1) (Or.inl ⟨by rfl, fun w => by go_simp⟩) ?_
      refine wpAny_ready (rs:=[12]) (by kernel_rfl) (by simp) ?_
      refine AllReady.cons rfl (fun K hK => ?_) ?_
      ·go_simp
       refine hK _ _ ?_
       clear hK K
       refine wpAny_ready (rs:=[13]) (by kernel_rfl) (by simp) ?_
       refine AllReady.cons rfl (fun K hK => ?_) ?_
       ·go_simp
        refine hK _ _ ?_
        clear hK K
        refine wpAny_done (by kernel_rfl) ?_ _
        exact ⟨rfl, rfl, rfl⟩
       exact AllReady.nil
      exact AllReady.nil
     exact AllReady.nil
    refine AllReady.cons rfl (fun K hK => ?_) ?_
    ·go_simp
     refine hK _ _ ?_
     clear hK K
     refine wpAny_take (i:=4) (v:=.int .u64 B) rfl (by kernel_rfl) (by kernel_rfl) (by kernel_rfl) (fun _ _ _ h => by cases h.1) (Or.inl ⟨by rfl, fun w => by go_simp⟩) ?_
     refine wpAny_take (i:=5) (v:=.int .u64 (N / B)) rfl (by kernel_rfl) (by kernel_rfl) (by kernel_rfl) (fun _ _ _ h => by cases h.1) (Or.inl ⟨by rfl, fun w => by go_simp⟩) ?_
     refine wpAny_take (i:=6) (v:=.int .u32 (N / B % 4294967296)) rfl (by kernel_rfl) (by kernel_rfl) (by kernel_rfl) (fun _ _ _ h => by cases h.1) (Or.inl ⟨by rfl, fun w => by go_simp⟩) ?_
     refine wpAny_ready (rs:=[0]) (by kernel_rfl) (by simp) ?_
     refine AllReady.cons rfl (fun K hK => ?_) ?_
     ·go_simp
      refine hK _ _ ?_
      clear hK K
      refine wpAny_take (i:=11) (v:=.pointer (some ⟨hs + 1, x, none⟩)) rfl (by kernel_rfl) (by kernel_rfl) (by kernel_rfl) (fun _ _ _ h => by cases h.1) (Or.inl ⟨by rfl, fun w => by go_simp⟩) ?_
      refine wpAny_ready (rs:=[12]) (by kernel_rfl) (by simp) ?_
      refine AllReady.cons rfl (fun K hK => ?_) ?_
      ·go_simp
       refine hK _ _ ?_
       clear hK K
       refine wpAny_ready (rs:=[13]) (by kernel_rfl) (by simp) ?_
       refine AllReady.cons rfl (fun K hK => ?_) ?_
       ·go_simp
        refine hK _ _ ?_
        clear hK K
        refine wpAny_done (by kernel_rfl) ?_ _
        exact ⟨rfl, rfl, rfl⟩
       exact AllReady.nil
      exact AllReady.nil
     exact AllReady.nil
    exact AllReady.nil
   exact AllReady.nil
  case cont =>
   rintro a' w' ⟨rfl, rfl⟩
   have hsm := smallOf_snoc l0 B pre ⟨x, hx⟩
   have hst : smallOf l0 B (pre ++ [⟨x, hx⟩]) = ((smallOf l0 B pre).1.set x (N / B % 4294967296), N % B) := by rw [hsm]; unfold smallStep; rw [HN.out]
   have hd1 : (((W.setCell ⟨w.heap.size + 1, x, none⟩ (.int .u32 (N / B % 4294967296))).setCell ⟨w.heap.size + 1 + 1 + 1, 0, none⟩ (.int .u64 (N % B))).drew).heap = ((W.setCell ⟨w.heap.size + 1, x, none⟩ (.int .u32 (N / B % 4294967296))).setCell ⟨w.heap.size + 1 + 1 + 1, 0, none⟩ (.int .u64 (N % B))).heap := rfl
   have hk1 : KeepOk (fun k => k < w.heap.size ∨ k = w.heap.size + 1 + 1 + 1 + 1) W (((W.setCell ⟨w.heap.size + 1, x, none⟩ (.int .u32 (N / B % 4294967296))).setCell ⟨w.heap.size + 1 + 1 + 1, 0, none⟩ (.int .u64 (N % B))).drew) := fun k hk => by
    rw [hd1, Below.heap_setCell _ _ _ _ (by show k ≠ w.heap.size + 1 + 1 + 1; omega), Below.heap_setCell _ _ _ _ (by show k ≠ w.heap.size + 1; omega)]
   refine ⟨((KeepsOthers.setCell _ _ _).trans ((KeepsOthers.setCell _ _ _).trans (KeepsOthers.drew _))).from _, hk1, ⟨?_, ?_, ?_, ?_⟩, ((hB.setCell (p:=⟨w.heap.size + 1, x, none⟩) (Nat.le_succ _) _).setCell (p:=⟨w.heap.size + 1 + 1 + 1, 0, none⟩) (by show w.heap.size ≤ w.heap.size + 1 + 1 + 1; omega) _).drew⟩
   ·rw [hd1, Below.heap_setCell _ _ _ _ (by show w.heap.size ≠ w.heap.size + 1 + 1 + 1; omega), Below.heap_setCell _ _ _ _ (by show w.heap.size ≠ w.heap.size + 1; omega)]
    exact h0
   ·rw [hd1, Below.heap_setCell _ _ _ _ (by show w.heap.size + 1 ≠ w.heap.size + 1 + 1 + 1; omega), heap_setCell_same _ _ _ _ _ _ h1, hst]
    simp [List.map_set]
   ·rw [hd1, Below.heap_setCell _ _ _ _ (by show w.heap.size + 1 + 1 ≠ w.heap.size + 1 + 1 + 1; omega), Below.heap_setCell _ _ _ _ (by show w.heap.size + 1 + 1 ≠ w.heap.size + 1; omega)]
    exact h2
   ·rw [hd1, heap_setCell_same _ _ _ _ _ _ ((Below.heap_setCell _ _ _ _ (by show w.heap.size + 1 + 1 + 1 ≠ w.heap.size + 1; omega)).trans h3), hst]
    rfl
 case done =>
  rintro D ys W hD rfl ⟨⟨h0, h1, h2, h3⟩, hB⟩ hK
  have c2_ : W.cell? ⟨w.heap.size + 1 + 1, 0, none⟩ = some (.slice (some ⟨w.heap.size + 1, 0, none⟩) l0.length l0.length) := Boxed.cell h2
  have c3_ : W.cell? ⟨w.heap.size + 1 + 1 + 1, 0, none⟩ = some (.int .u64 (smallOf l0 B (bwd l0.length l0.length (Nat.le_refl _))).2) := Boxed.cell h3
  rw [smallOf_bwd] at h1 c3_
  obtain ⟨st, hst⟩ : ∃ st, smallIt l0 B l0.length = st := ⟨_, rfl⟩
  have hsl := smallIt_length l0 B l0.length
  rw [hst] at h1 c3_ hsl
  have HST := zMk hst
  clear hst
  have hC : Kd.C (Kd.int .u32) W (some ⟨w.heap.size + 1, 0, none⟩) st.1.length st.1 := C_of_block h1 (by omega)
  have hcut := n_cut.exact (some ⟨w.heap.size + 1, 0, none⟩) l0.length st.1 W.drew (zCd hC) (by omega)
  rw [hsl] at hcut
  have HCUT := zMk (hcut.mono (fun e w' ⟨he, hw⟩ => (⟨he, hw.symm⟩ : e = Ending.returned (.slice (some ⟨w.heap.size + 1, 0, none⟩) (cutLen st.1 l0.length) l0.length) ∧ w' = W.drew)))
  clear hcut
  go_wp2
  refine wp_region_still_lit (by kernel_rfl) (by kernel_rfl) ?_
  show wpStill _ _ W.drew _ _ _
  repeat still_step
  still_call HCUT.out
  repeat still_step
  refine wpStill_nil ?_
  go_wp2
  have hK' : W.drew.heap[D]? = some (.deferred (some [])) := hK
  refine ⟨by simp, .inl ⟨_, _, rfl, run_takeDeferred hK', ?_⟩⟩
  have hBe : Below w.heap.size w (W.drew.putObj D (.deferred none)) := (below_drew hB).trans (belowK_b (w:=w) (Nat.le_refl _) W.drew D _ _ (by rw [hz0] at hD; omega) hK' rfl rfl)
  have h1e : (W.drew.putObj D (.deferred none)).heap[w.heap.size + 1]? = some (.cells (st.1.map (Value.int .u32)).toArray 58 (0, 0)) := keepCells (B:=W.drew.putObj D (.deferred none)) (A:=W.drew) h1 (grownBy_putObj' _ D (.deferred none)) (fun r e => by cases e; exact ⟨_, hK', rfl⟩)
  have h2 := HH.out
  unfold n_small.f at h2
  rw [if_pos hlim, HBE.out, if_neg (by omega), HST.out] at h2
  simp only [Option.some.injEq, Prod.mk.injEq] at h2
  obtain ⟨rfl, rfl⟩ := h2
  have hle := cutLen_le st.1 l0.length
  have hlen : (st.1.take (cutLen st.1 l0.length)).length = cutLen st.1 l0.length := by rw [zLt]; omega
  refine ⟨.tuple #[.slice (some ⟨w.heap.size + 1, 0, none⟩) (cutLen st.1 l0.length) l0.length, .int .u32 (st.2 % 4294967296)], ?_, ?_⟩
  ·simp [results, Tryd.f58, go_sem]
   try rw [IntKind.wrap_u32]
  ·refine ⟨_, rfl, ?_, hBe⟩
   have hF : Kd.F (Kd.int .u32) (W.drew.putObj D (.deferred none)) (fun k => w.heap.size ≤ k) (some ⟨w.heap.size + 1, 0, none⟩) st.1.length st.1 := fun W' hW => C_of_block ((hW _ (Nat.le_succ _) (Array.getElem?_eq_some_iff.1 h1e).1).trans h1e) (by omega)
   have hF2 := Kd.F_take (m:=cutLen st.1 l0.length) hF (by omega)
   have h3 := Kd.V_mk (e:=58) (base:=w.heap.size) (c:=l0.length) (by rw [hlen]; exact hle) hF2
   rw [hlen] at h3
   exact h3
 case stop =>
  rintro D c pre W hD _ h
  exact h.elim
end


def n_shift.l0 : Nat → Int → List Int → List Int → Int → Int → Option (List Int)
 | 0, _, _, _, _, _ => none
 | k + 1, x1, x5, x13, x14, x15 => if x15 < x14 then (if 0 ≤ x15 then (if x15 < (x13.length : Int) then (if 0 ≤ x1 then (if x15 < (x5.length : Int) then (if 0 ≤ (wrap64 (x15 + 1)) then (if (wrap64 (x15 + 1)) < (x5.length : Int) then (n_shift.l0 k x1 ((x5.set (x15 : Int).toNat (Go.bits .or .u32 (rd x5 x15) ((shl .u64 (IntKind.u64.wrap (rd x13 x15)) x1) % 4294967296))).set ((wrap64 (x15 + 1)) : Int).toNat (((shl .u64 (IntKind.u64.wrap (rd x13 x15)) x1) / 4294967296) % 4294967296)) x13 x14 (wrap64 (x15 + 1))) else (none)) else (none)) else (none)) else (none)) else (none)) else (none)) else (some x5)
def n_shift.f (k : Nat) (l0 : List Int) (a1 : Int) : Option (List Int) := if 0 ≤ (wrap64 ((l0.length : Int) + 1)) then (if (wrap64 ((l0.length : Int) + 1) : Int).toNat ≤ 70368744177664 then (n_shift.l0 k a1 (List.replicate (wrap64 ((l0.length : Int) + 1) : Int).toNat 0) l0 (l0.length : Int) 0) else (none)) else (none)
theorem n_shift.calls (k : Nat) (A0 : Option Addr) (c0 : Nat) (l0 : List Int) (a1 : Int) (r : List Int) (w : World) (hr0 : Kd.C (Kd.int .u32) w A0 l0.length l0) (hc0 : l0.length ≤ c0) (h : n_shift.f k l0 a1 = some r) :
  Calls Tryd.prog 60 #[.slice A0 l0.length c0, .int .u64 a1] w fun e w' => ∃ v0_ : Value, e = .returned (v0_) ∧ Kd.R (Kd.int .u32) 58 w' w.heap.size (fun _ => True) v0_ r ∧ Below w.heap.size w w' := by
 have HR0 := zMk hr0
 have HC0 := zMk hc0
 clear hr0 hc0
 have HB := zMk (Below.refl w.heap.size w)
 have H : (if 0 ≤ (wrap64 ((l0.length : Int) + 1)) then (if (wrap64 ((l0.length : Int) + 1) : Int).toNat ≤ 70368744177664 then (n_shift.l0 k a1 (List.replicate (wrap64 ((l0.length : Int) + 1) : Int).toNat 0) l0 (l0.length : Int) 0) else (none)) else (none)) = some r := h
 clear h
 obtain ⟨ji3, hji3⟩ : ∃ j_ : Int, (wrap64 ((l0.length : Int) + 1)) = j_ := ⟨_, rfl⟩
 replace H : (if 0 ≤ (ji3) then (if (ji3 : Int).toNat ≤ 70368744177664 then (n_shift.l0 k a1 (List.replicate (ji3 : Int).toNat 0) l0 (l0.length : Int) 0) else (none)) else (none)) = some r := by first | (rw [hji3] at H; exact H) | (simp only [hji3] at H ⊢; exact H)
 have hji3w : (IntKind.i64.wrap ((l0.length : Int) + 1)) = ji3 := (i64_w _).trans hji3
 by_cases c4 : 0 ≤ (ji3)
 ·rw [if_pos c4] at H
  have c4b0 := eq_true c4
  have c4b1 : decide (0 ≤ (ji3)) = true := decide_eq_true c4
  clear c4
  by_cases c5 : (ji3 : Int).toNat ≤ 70368744177664
  rotate_left
  ·rw [if_neg c5] at H; exact absurd H (by simp)
  rw [if_pos c5] at H
  have c5b0 := eq_true c5
  have c5b1 : decide ((ji3 : Int).toNat ≤ 70368744177664) = true := decide_eq_true c5
  clear c5
  obtain ⟨y135, hy135⟩ : ∃ y_ : List Int, y_ = (List.replicate (ji3 : Int).toNat 0) := ⟨_, rfl⟩
  replace H : (n_shift.l0 k a1 y135 l0 (l0.length : Int) 0) = some r := by first | (rw [hy135]; with_reducible exact H) | (have H2_ := bsm H; first | (rw [hy135]; with_reducible exact H2_) | with_reducible exact H2_) | with_reducible exact H | (rw [hy135]; exact H) | exact H
  have Ny135 := zMk hy135
  clear hy135
  have H' := zMk H
  clear H
  go_enter Tryd.func60, Tryd.ntmps60
  go_wp2_with (first | ((with_reducible refine gate_dst (N:=12) rfl ?_); refine Kd.R_make (Kd.int .u32) _ 58 rfl (N:=12) rfl 22 _ _ rfl ji3 rfl rfl Tryd.underlying22 (.int .u32 0) 4 info58 rfl (by decide) (by omega) 0 (ok:=fun _ => True) (okp:=fun _ => True) rfl (fun _ hk => hk) trivial (of_decide_eq_true (by first | (with_reducible assumption)|  assumption)) (Nat.le_trans (Nat.mul_le_mul_right _ (of_decide_eq_true (by first | (with_reducible assumption)|  assumption) : ji3.toNat ≤ 70368744177664)) (by omega)) (Below.refl _ _) (Nat.le_refl _) ?_; intro v136 w6 ho7 hb hg_ hnew_; clear hg_ hnew_; (first |  rw [← Ny135.out] at ho7|  (simp only [Int.reduceToNat] at ho7; rw [← Ny135.out] at ho7)); have HO137 := zMk (zRl ho7 (zBs (uT HB.out))); replace HB := zMk (zBt (uT HB.out) hb); clear hb ho7))
  go_loopg [15] k (fun kq v15 w' => ∃ (x5_1 : List Int) (x15_1 : Int), v15 = .int .i64 x15_1 ∧ Aside0 (n_shift.l0 kq a1 x5_1 l0 (l0.length : Int) x15_1 = some r) ∧ Aside0 (kq ≤ k) ∧ Aside0 (Kd.R (Kd.int .u32) 58 w' w.heap.size (fun _ => True) v136 x5_1) ∧ Aside0 (Below w.heap.size w w'))
  case atStart => exact ⟨(y135), (0), (by first | rfl | (simp; done) | (simp [*]; done)), H', ⟨Nat.le_refl _⟩, ⟨by exact uR HO137.out⟩, ⟨by exact uT HB.out⟩⟩
  clear H'
  obtain ⟨x5_1, x15_1, rfl, HA, HK1, HO_5, HB⟩ := hrel
  rcases gk with _ | k1
  ·exact absurd HA.out (by simp [n_shift.l0])
  have H := HA.out
  clear HA
  simp only [n_shift.l0] at H
  by_cases c8 : x15_1 < (l0.length : Int)
  ·rw [if_pos c8] at H
   have c8b0 : decide (x15_1 < (l0.length : Int)) = true := decide_eq_true c8
   clear c8
   by_cases c9 : 0 ≤ x15_1
   rotate_left
   ·rw [if_neg c9] at H; exact absurd H (by simp)
   rw [if_pos c9] at H
   have c9b0 : decide (0 ≤ x15_1) = true := decide_eq_true c9
   clear c9
   by_cases c10 : x15_1 < (l0.length : Int)
   rotate_left
   ·rw [if_neg c10] at H; exact absurd H (by simp)
   rw [if_pos c10] at H
   have c10b0 : decide (x15_1 < (l0.length : Int)) = true := decide_eq_true c10
   clear c10
   by_cases c11 : 0 ≤ a1
   rotate_left
   ·rw [if_neg c11] at H; exact absurd H (by simp)
   rw [if_pos c11] at H
   have c11b0 := eq_true c11
   have c11b1 : decide (0 ≤ a1) = true := decide_eq_true c11
   clear c11
   obtain ⟨ji12, hji12⟩ : ∃ j_ : Int, (shl .u64 (IntKind.u64.wrap (rd l0 x15_1)) a1) = j_ := ⟨_, rfl⟩
   replace H : (if x15_1 < (x5_1.length : Int) then (if 0 ≤ (wrap64 (x15_1 + 1)) then (if (wrap64 (x15_1 + 1)) < (x5_1.length : Int) then (n_shift.l0 k1 a1 ((x5_1.set (x15_1 : Int).toNat (Go.bits .or .u32 (rd x5_1 x15_1) ((ji12) % 4294967296))).set ((wrap64 (x15_1 + 1)) : Int).toNat (((ji12) / 4294967296) % 4294967296)) l0 (l0.length : Int) (wrap64 (x15_1 + 1))) else (none)) else (none)) else (none)) = some r := by first | (rw [hji12] at H; exact H) | (simp only [hji12] at H ⊢; exact H)
   have hji12_ : (IntKind.u64.wrap ((IntKind.u64.wrap (rd l0 x15_1)) * 2 ^ min a1.toNat 64)) = ji12 := hji12
   have hji12z : a1 ≤ 64 → (IntKind.u64.wrap ((IntKind.u64.wrap (rd l0 x15_1)) * 2 ^ a1.toNat)) = ji12 := shl_small hji12
   by_cases c13 : x15_1 < (x5_1.length : Int)
   rotate_left
   ·rw [if_neg c13] at H; exact absurd H (by simp)
   rw [if_pos c13] at H
   have c13b0 : decide (x15_1 < (x5_1.length : Int)) = true := decide_eq_true c13
   clear c13
   obtain ⟨y140, hy140⟩ : ∃ y_ : List Int, y_ = (x5_1.set (x15_1 : Int).toNat (Go.bits .or .u32 (rd x5_1 x15_1) ((ji12) % 4294967296))) := ⟨_, rfl⟩
   replace H : (if 0 ≤ (wrap64 (x15_1 + 1)) then (if (wrap64 (x15_1 + 1)) < (x5_1.length : Int) then (n_shift.l0 k1 a1 (y140.set ((wrap64 (x15_1 + 1)) : Int).toNat (((ji12) / 4294967296) % 4294967296)) l0 (l0.length : Int) (wrap64 (x15_1 + 1))) else (none)) else (none)) = some r := by first | (rw [hy140]; with_reducible exact H) | (have H2_ := bsm H; first | (rw [hy140]; with_reducible exact H2_) | with_reducible exact H2_) | with_reducible exact H | (rw [hy140]; exact H) | exact H
   have Ny140 := zMk hy140
   clear hy140
   obtain ⟨ji15, hji15⟩ : ∃ j_ : Int, (wrap64 (x15_1 + 1)) = j_ := ⟨_, rfl⟩
   replace H : (if 0 ≤ (ji15) then (if (ji15) < (x5_1.length : Int) then (n_shift.l0 k1 a1 (y140.set ((ji15) : Int).toNat (((ji12) / 4294967296) % 4294967296)) l0 (l0.length : Int) ji15) else (none)) else (none)) = some r := by first | (rw [hji15] at H; exact H) | (simp only [hji15] at H ⊢; exact H)
   have hji15w : (IntKind.i64.wrap (x15_1 + 1)) = ji15 := (i64_w _).trans hji15
   by_cases c16 : 0 ≤ (ji15)
   rotate_left
   ·rw [if_neg c16] at H; exact absurd H (by simp)
   rw [if_pos c16] at H
   have c16b0 : decide (0 ≤ (ji15)) = true := decide_eq_true c16
   clear c16
   by_cases c17 : (ji15) < (x5_1.length : Int)
   rotate_left
   ·rw [if_neg c17] at H; exact absurd H (by simp)
   rw [if_pos c17] at H
   have c17b0 : decide ((ji15) < (x5_1.length : Int)) = true := decide_eq_true c17
   clear c17
   obtain ⟨y141, hy141⟩ : ∃ y_ : List Int, y_ = (y140.set ((ji15) : Int).toNat (((ji12) / 4294967296) % 4294967296)) := ⟨_, rfl⟩
   replace H : (n_shift.l0 k1 a1 y141 l0 (l0.length : Int) ji15) = some r := by first | (rw [hy141]; with_reducible exact H) | (have H2_ := bsm H; first | (rw [hy141]; with_reducible exact H2_) | with_reducible exact H2_) | with_reducible exact H | (rw [hy141]; exact H) | exact H
   have Ny141 := zMk hy141
   clear hy141
   have H' := zMk H
   clear H
   have p138 : 0 ≤ (x15_1 : Int) := of_decide_eq_true (by assumption)
   have q138 : x15_1 < (l0.length : Int) := of_decide_eq_true (by assumption)
   obtain ⟨ad138, e138, hx138_0⟩ := zAi HR0.out x15_1 p138 q138
   cases e138
   replace hx138_0 := (HB.out.cell (World.block_lt_of_cell? w _ hx138_0)).trans hx138_0
   replace p138 := eq_true p138
   replace q138 := eq_true q138
   obtain ⟨Ao19, co19, eo19⟩ := zRs HO_5.out
   subst eo19
   have p139 : 0 ≤ (x15_1 : Int) := of_decide_eq_true (by assumption)
   have q139 : x15_1 < (x5_1.length : Int) := of_decide_eq_true (by assumption)
   obtain ⟨ad139, e139, hx139_0⟩ := zAi (zRr HO_5.out).2.2 x15_1 p139 q139
   cases e139
   replace p139 := eq_true p139
   replace q139 := eq_true q139
   have p14 : 0 ≤ (x15_1 : Int) := of_decide_eq_true (by assumption)
   have q14 : (x15_1 : Int) < ((x5_1.length : Int) : Int) := of_decide_eq_true (by assumption)
   obtain ⟨go14, co14, eo14, gb14, gl14, cl14, HG14⟩ := Kd.R_form HO_5.out (by omega)
   (first |  cases eo14|  (injection eo14 with ea_ en_ ec_; (first |  subst ea_|  (injection ea_ with ea_; subst ea_)); subst ec_; clear en_))
   have GB14 := zMk gb14
   have IGB14 := ownGe GB14.out
   have GG14 := zMk HG14
   clear gb14 gl14 HG14
   (first | simp only [add_plain] at hx139_0 | skip)
   obtain ⟨hx14_0, hf14_0⟩ := Kd.R_celln 0 HO_5.out (x15_1 : Int) p14 q14
   replace p14 := eq_true p14
   replace q14 := eq_true q14
   have HP20 := Kd.R_putg HO_5.out (x15_1 : Int) (Go.bits .or .u32 (rd x5_1 x15_1) ((ji12) % 4294967296))
   go_wp2_with (first | ((with_reducible refine gate_store (t:=58) (p:=31) rfl ?_); refine store_event (t:=58) (p:=31) (v:=?vo_w21) (w1:=(wr.setCell ⟨go14, (x15_1 : Int).toNat, none⟩ (.int .u32 (Go.bits .or .u32 (rd x5_1 x15_1) ((ji12) % 4294967296))))) ?hg ?ho ?hn ?hr ?_; (case ho => rfl); (case hg => rfl); (case hn => rfl); (case hr => first | (go_simp; done)|(go_simp; rfl)|(go_simp; rw [show ∀ x : Int, IntKind.u32.wrap (IntKind.u8.wrap x) = x % 256 from fun x => (by show (x % 256) % 4294967296 = x % 256; omega)])); intro w21 hw; have hg : wr.grownBy w21 (some go14) := (by rw [hw]; exact HP20.2); have hp_ : Kd.R (Kd.int .u32) 58 w21 w.heap.size (fun _ => True) (.slice (some ⟨go14, 0, none⟩) x5_1.length co19) y140 := (by rw [hw, Ny140.out]; exact HP20.1); clear HP20; replace HO_5 := zMk (hp_); replace HB := zMk ((by rw [hw]; exact below_set (HB.out) GB14.out : Below w.heap.size w w21)); clear hg hw hp_; have p18 : 0 ≤ ((ji15) : Int) := of_decide_eq_true (by first | (with_reducible assumption)|  assumption); have q18 : ((ji15) : Int) < ((x5_1.length : Int) : Int) := of_decide_eq_true (by first | (with_reducible assumption)|  assumption); obtain ⟨hx18_0, hf18_0⟩ := Kd.R_celln 0 HO_5.out ((ji15) : Int) p18 q18; replace p18 := eq_true p18; replace q18 := eq_true q18; obtain ⟨hy22_, hz22_⟩ := Kd.R_celln 0 HO_5.out ((ji15) : Int) (of_decide_eq_true (by first | (with_reducible assumption)|  assumption)) (of_decide_eq_true (by first | (with_reducible assumption)|  assumption)); have HP22 := Kd.R_putg HO_5.out ((ji15) : Int) (((ji12) / 4294967296) % 4294967296))|((with_reducible refine gate_store (t:=58) (p:=38) rfl ?_); refine store_event (t:=58) (p:=38) (v:=?vo_w23) (w1:=(w21.setCell ⟨go14, ((ji15) : Int).toNat, none⟩ (.int .u32 (((ji12) / 4294967296) % 4294967296)))) ?hg ?ho ?hn ?hr ?_; (case ho => rfl); (case hg => rfl); (case hn => rfl); (case hr => first | (go_simp; done)|(go_simp; rfl)|(go_simp; rw [show ∀ x : Int, IntKind.u32.wrap (IntKind.u8.wrap x) = x % 256 from fun x => (by show (x % 256) % 4294967296 = x % 256; omega)])); intro w23 hw; have hg : w21.grownBy w23 (some go14) := (by rw [hw]; exact HP22.2); have hp_ : Kd.R (Kd.int .u32) 58 w23 w.heap.size (fun _ => True) (.slice (some ⟨go14, 0, none⟩) x5_1.length co19) y141 := (by rw [hw, Ny141.out]; exact HP22.1); clear HP22; replace HO_5 := zMk (hp_); replace HB := zMk ((by rw [hw]; exact below_set (HB.out) GB14.out : Below w.heap.size w w23)); clear hg hw hp_))
   go_roundg k1
   case measure => have := HK1.out; omega
   case rel => exact ⟨(y141), (ji15), (by first | rfl | (simp; done) | (simp only [← hji15] <;> (first | rfl | simp)) | (simp [*]; done)), H', ⟨by have := HK1.out; omega⟩, ⟨by exact uR HO_5.out⟩, ⟨by exact uT HB.out⟩⟩
  ·rw [if_neg c8] at H
   have c8b0 : decide (x15_1 < (l0.length : Int)) = false := decide_eq_false c8
   clear c8
   obtain rfl := zOi H
   go_wp2
   go_ret
   exact ⟨_, by first | rfl | (simp [errW_none, errW_some] <;> rfl) | (simp only [← hji3]; first | rfl | (simp [errW_none, errW_some] <;> rfl)) | (simp [*, errW_none, errW_some] <;> rfl), by exact uR HO_5.out, by exact uT HB.out⟩
 ·rw [if_neg c4] at H
  exact absurd H (by simp)


def bits_Sub32.f (a0 : Int) (a1 : Int) (a2 : Int) : Option (Int × Int) := some ((((a0 - a1) % 4294967296) - a2) % 4294967296, (Go.bits .or .u32 (Go.bits .and .u32 (Go.bits .xor .u32 4294967295 a0) a1) (Go.bits .and .u32 (Go.bits .xor .u32 4294967295 (Go.bits .xor .u32 a0 a1)) ((((a0 - a1) % 4294967296) - a2) % 4294967296))) / 2147483648)
theorem bits_Sub32.calls (a0 : Int) (a1 : Int) (a2 : Int) (r1 : Int) (r2 : Int) (w : World) (h : bits_Sub32.f a0 a1 a2 = some (r1, r2)) :
    Calls Tryd.prog 80 #[.int .u32 a0, .int .u32 a1, .int .u32 a2] w fun e w' => e = .returned (.tuple #[.int .u32 r1, .int .u32 r2]) ∧ Drawn0 w w' := by
  have H : (some ((((a0 - a1) % 4294967296) - a2) % 4294967296, (Go.bits .or .u32 (Go.bits .and .u32 (Go.bits .xor .u32 4294967295 a0) a1) (Go.bits .and .u32 (Go.bits .xor .u32 4294967295 (Go.bits .xor .u32 a0 a1)) ((((a0 - a1) % 4294967296) - a2) % 4294967296))) / 2147483648)) = some (r1, r2) := h
  clear h
  simp only [Option.some.injEq, Prod.mk.injEq] at H
  obtain ⟨rfl, rfl⟩ := H
  go_enter Tryd.func80, Tryd.ntmps80
  go_wp2
  go_ret2
  exact ⟨by first | rfl | (simp; done) | (simp [*]; done), by repeat (first | exact Drawn0.refl _ | apply Drawn0.step)⟩


def n_less.l0 : Nat → List Int → List Int → Int → Int → Int → Option (Int × List Int)
 | 0, _, _, _, _, _ => none
 | k + 1, x0, x1, x5, x9, x10 => if x10 < x9 then (if x10 < (x1.length : Int) then (if 0 ≤ x10 then (if x10 < (x0.length : Int) then ((bits_Sub32.f (rd x0 x10) (rd x1 x10) x5).bind fun bt144 => (n_less.l0 k (x0.set (x10 : Int).toNat bt144.1) x1 bt144.2 x9 (wrap64 (x10 + 1)))) else (none)) else (none)) else (if 0 ≤ x10 then (if x10 < (x0.length : Int) then ((bits_Sub32.f (rd x0 x10) 0 x5).bind fun bt148 => (n_less.l0 k (x0.set (x10 : Int).toNat bt148.1) x1 bt148.2 x9 (wrap64 (x10 + 1)))) else (none)) else (none))) else (some (x5, x0))
def n_less.f (k : Nat) (l0 : List Int) (l1 : List Int) : Option (Int × List Int) := n_less.l0 k l0 l1 0 (l0.length : Int) 0
theorem n_less.calls (k : Nat) (P0_ : Nat → Prop) (u9000_ : Value) (l0 : List Int) (A1 : Option Addr) (c1 : Nat) (l1 : List Int) (r1 : Int) (r2 : List Int) (w0 w : World) (hB : Below w0.heap.size w0 w) (ho0 : Kd.R (Kd.int .u32) 58 w w0.heap.size P0_ u9000_ l0) (hr1 : ∀ W_, Kept w W_ (fun k_ => P0_ k_) → Kd.C (Kd.int .u32) W_ A1 l1.length l1) (hc1 : l1.length ≤ c1) (h : n_less.f k l0 l1 = some (r1, r2)) :
  Calls Tryd.prog 61 #[u9000_, .slice A1 l1.length c1] w fun e w' => e = .returned (.int .u32 r1) ∧ Kd.R (Kd.int .u32) 58 w' w0.heap.size (fun k_ => (P0_ k_ ∨ w.heap.size ≤ k_)) u9000_ r2 ∧ Below w0.heap.size w0 w' ∧ Kept w w' (fun k_ => P0_ k_) := by
 have HO0 := zMk (show Kd.R (Kd.int .u32) 58 w w0.heap.size (fun k_ => (P0_ k_ ∨ w.heap.size ≤ k_)) u9000_ l0 from zRm ho0 (fun k_ hk => (.inl hk)))
 have HR1 := zMk hr1
 have HC1 := zMk hc1
 clear hr1 hc1
 have HK := zMk (Kept.refl w (fun k_ => P0_ k_))
 have HW0 := zMk hB.size
 have HB := zMk hB
 clear hB
 have H : (n_less.l0 k l0 l1 0 (l0.length : Int) 0) = some (r1, r2) := h
 clear h
 have H' := zMk H
 clear H
 obtain ⟨Ao3, co3, eo3⟩ := zRs HO0.out
 subst eo3
 go_enter Tryd.func61, Tryd.ntmps61
 go_wp2
 go_loopg [5, 10] k (fun kq v5 v10 w' => ∃ (x0_1 : List Int) (x5_1 : Int) (x10_1 : Int), v5 = .int .u32 x5_1 ∧ v10 = .int .i64 x10_1 ∧ Aside0 (n_less.l0 kq x0_1 l1 x5_1 (l0.length : Int) x10_1 = some (r1, r2)) ∧ Aside0 (kq ≤ k) ∧ Aside0 (Kd.R (Kd.int .u32) 58 w' w0.heap.size (fun k_ => (P0_ k_ ∨ w.heap.size ≤ k_)) (.slice Ao3 l0.length co3) x0_1) ∧ Aside0 (Kept w w' (fun k_ => P0_ k_)) ∧ Aside0 (Below w0.heap.size w0 w'))
 case atStart => exact ⟨(l0), (0), (0), (by first | rfl | (simp; done) | (simp [*]; done)), (by first | rfl | (simp; done) | (simp [*]; done)), H', ⟨Nat.le_refl _⟩, ⟨by exact uR HO0.out⟩, ⟨by repeat (first | (with_reducible first | exact HK.out | apply Kept.alloc | apply Kept.drewN | apply Kept.drew) | exact HK.out)⟩, ⟨by exact uT HB.out⟩⟩
 clear H'
 obtain ⟨x0_1, x5_1, x10_1, rfl, rfl, HA, HK1, HO_0, HK, HB⟩ := hrel
 have hl0_1 := (zRr HO_0.out).1
 rw [hl0_1] at HO_0
 (try simp only [hl0_1])
 rcases gk with _ | k1
 ·exact absurd HA.out (by simp [n_less.l0])
 have H := HA.out
 clear HA
 simp only [n_less.l0] at H
 by_cases c4 : x10_1 < (l0.length : Int)
 ·rw [if_pos c4] at H
  have c4b0 : decide (x10_1 < (l0.length : Int)) = true := decide_eq_true c4
  (try (have c4b0l := c4b0; simp only [hl0_1] at c4b0l))
  clear c4
  by_cases c5 : x10_1 < (l1.length : Int)
  ·rw [if_pos c5] at H
   have c5b0 : decide (x10_1 < (l1.length : Int)) = true := decide_eq_true c5
   (try (have c5b0l := c5b0; simp only [hl0_1] at c5b0l))
   clear c5
   by_cases c6 : 0 ≤ x10_1
   rotate_left
   ·rw [if_neg c6] at H; exact absurd H (by simp)
   rw [if_pos c6] at H
   have c6b0 : decide (0 ≤ x10_1) = true := decide_eq_true c6
   (try (have c6b0l := c6b0; simp only [hl0_1] at c6b0l))
   clear c6
   by_cases c7 : x10_1 < (x0_1.length : Int)
   rotate_left
   ·rw [if_neg c7] at H; exact absurd H (by simp)
   rw [if_pos c7] at H
   have c7b0 : decide (x10_1 < (x0_1.length : Int)) = true := decide_eq_true c7
   (try (have c7b0l := c7b0; simp only [hl0_1] at c7b0l))
   clear c7
   replace H := bnd H
   obtain ⟨⟨t144, t145⟩, A80, H⟩ := H
   replace H : (n_less.l0 k1 (x0_1.set (x10_1 : Int).toNat t144) l1 t145 (l0.length : Int) (wrap64 (x10_1 + 1))) = some (r1, r2) := H
   have A8 := zMk A80
   clear A80
   obtain ⟨y146, hy146⟩ : ∃ y_ : List Int, y_ = (x0_1.set (x10_1 : Int).toNat t144) := ⟨_, rfl⟩
   replace H : (n_less.l0 k1 y146 l1 t145 (l0.length : Int) (wrap64 (x10_1 + 1))) = some (r1, r2) := by first | (rw [hy146]; with_reducible exact H) | (have H2_ := bsm H; first | (rw [hy146]; with_reducible exact H2_) | with_reducible exact H2_) | with_reducible exact H | (rw [hy146]; exact H) | exact H
   have Ny146 := zMk hy146
   clear hy146
   have H' := zMk H
   clear H
   have p142 : 0 ≤ (x10_1 : Int) := of_decide_eq_true (by assumption)
   have q142 : x10_1 < (l1.length : Int) := of_decide_eq_true (by assumption)
   obtain ⟨ad142, e142, hx142_0⟩ := zAi (Kd.C_kept_now HR1.out HK.out) x10_1 p142 q142
   cases e142
   replace p142 := eq_true p142
   replace q142 := eq_true q142
   have p143 : 0 ≤ (x10_1 : Int) := of_decide_eq_true (by assumption)
   have q143 : x10_1 < (x0_1.length : Int) := of_decide_eq_true (by assumption)
   obtain ⟨ad143, e143, hx143_0⟩ := zAi (zRr HO_0.out).2.2 x10_1 p143 q143
   cases e143
   replace p143 := eq_true p143
   replace q143 := eq_true q143
   go_wp2_with (first | ((with_reducible refine gate_callee (f:=80) rfl ?_); refine goesL_ (some 30) rfl rfl Tryd.func80 (by kernel_rfl) rfl #[.int .u32 (rd x0_1 x10_1), .int .u32 (rd l1 x10_1), .int .u32 x5_1] rfl (by (try simp only [zMa, zMc, zMn]); first |  done|  rfl|  (simp only [zLd, zLt]; rfl)) ?_; (with_reducible refine (bits_Sub32.calls (rd x0_1 x10_1) (rd l1 x10_1) x5_1 t144 t145 _ A8.out).mono ?_); rintro e w' ⟨rfl, ⟨nd, rfl⟩⟩; refine ⟨_, rfl, ?_⟩; (try (rw [drewN_self wr]; generalize hq_ : World.drewN wr _ = wr; have n0_ : Aside0 (Kd.R (Kd.int .u32) 58 wr w0.heap.size (fun k_ => (P0_ k_ ∨ w.heap.size ≤ k_)) (.slice (some ad143) x0_1.length co3) x0_1) := ⟨by rw [← hq_]; exact (uR HO_0.out)⟩; have n1_ : Aside0 (Kept w wr (fun k_ => P0_ k_)) := ⟨by rw [← hq_]; exact (by repeat (first | (with_reducible first |  exact HK.out|  apply Kept.alloc|  apply Kept.drewN|  apply Kept.drew)|  exact HK.out))⟩; have n2_ : Aside0 (Below w0.heap.size w0 wr) := ⟨by rw [← hq_]; exact (uT HB.out)⟩; clear HO_0 HK HB hq_; have HO_0 := n0_; have HK := n1_; have HB := n2_; clear n0_ n1_ n2_)); have p9 : 0 ≤ (x10_1 : Int) := of_decide_eq_true (by first | (with_reducible assumption)|  assumption); have q9 : (x10_1 : Int) < ((x0_1.length : Int) : Int) := of_decide_eq_true (by first | (with_reducible assumption)|  assumption); obtain ⟨go9, co9, eo9, gb9, gl9, cl9, HG9⟩ := Kd.R_form HO_0.out (by omega); (first |  cases eo9|  (injection eo9 with ea_ en_ ec_; (first |  subst ea_|  (injection ea_ with ea_; subst ea_)); subst ec_; clear en_)); have GB9 := zMk gb9; have IGB9 := ownGe GB9.out; have GG9 := zMk HG9; clear gb9 gl9 HG9; have HMgo9 := zMk (show (P0_ go9 ∨ w.heap.size ≤ go9) from (HO_0.out.1 _ rfl)); (first |  simp only [add_plain] at hx143_0|  skip); obtain ⟨hx9_0, hf9_0⟩ := Kd.R_celln 0 HO_0.out (x10_1 : Int) p9 q9; replace p9 := eq_true p9; replace q9 := eq_true q9; obtain ⟨hy10_, hz10_⟩ := Kd.R_celln 0 HO_0.out (x10_1 : Int) (of_decide_eq_true (by first | (with_reducible assumption)|  assumption)) (of_decide_eq_true (by first | (with_reducible assumption)|  assumption)); have HP10 := Kd.R_putg HO_0.out (x10_1 : Int) t144)|((with_reducible refine gate_store (t:=58) (p:=33) rfl ?_); refine store_event (t:=58) (p:=33) (v:=?vo_w11) (w1:=(wr.setCell ⟨go9, (x10_1 : Int).toNat, none⟩ (.int .u32 t144))) ?hg ?ho ?hn ?hr ?_; (case ho => rfl); (case hg => rfl); (case hn => rfl); (case hr => first | (go_simp; done)|(go_simp; rfl)|(go_simp; rw [show ∀ x : Int, IntKind.u32.wrap (IntKind.u8.wrap x) = x % 256 from fun x => (by show (x % 256) % 4294967296 = x % 256; omega)])); intro w11 hw; have hg : wr.grownBy w11 (some go9) := (by rw [hw]; exact HP10.2); have hp_ : Kd.R (Kd.int .u32) 58 w11 w0.heap.size (fun k_ => (P0_ k_ ∨ w.heap.size ≤ k_)) (.slice (some ⟨go9, 0, none⟩) x0_1.length co3) y146 := (by rw [hw, Ny146.out]; exact HP10.1); clear HP10; replace HB := zMk ((by rw [hw]; exact below_set (HB.out) GB9.out : Below w0.heap.size w0 w11)); replace HK := zMk (Kept.of_grown (S:=(fun k_ => P0_ k_)) hg (by repeat (first | (with_reducible first |  exact HK.out|  apply Kept.alloc|  apply Kept.drewN|  apply Kept.drew)|  exact HK.out)) (fun k_ e_ => (HO_0.out.1 k_ e_))); replace HO_0 := zMk (hp_); clear hg hw hp_))
   (try simp only [← hl0_1])
   go_roundg k1
   case measure => have := HK1.out; omega
   case rel => exact ⟨(y146), (t145), (wrap64 (x10_1 + 1)), (by first | rfl | (simp; done) | (simp [*]; done)), (by first | rfl | (simp; done) | (simp [*]; done)), H', ⟨by have := HK1.out; omega⟩, ⟨by (try simp only [hl0_1]); exact uR HO_0.out⟩, ⟨by repeat (first | (with_reducible first | exact HK.out | apply Kept.alloc | apply Kept.drewN | apply Kept.drew) | exact HK.out)⟩, ⟨by exact uT HB.out⟩⟩
  ·rw [if_neg c5] at H
   have c5b0 : decide (x10_1 < (l1.length : Int)) = false := decide_eq_false c5
   (try (have c5b0l := c5b0; simp only [hl0_1] at c5b0l))
   clear c5
   by_cases c12 : 0 ≤ x10_1
   rotate_left
   ·rw [if_neg c12] at H; exact absurd H (by simp)
   rw [if_pos c12] at H
   have c12b0 : decide (0 ≤ x10_1) = true := decide_eq_true c12
   (try (have c12b0l := c12b0; simp only [hl0_1] at c12b0l))
   clear c12
   by_cases c13 : x10_1 < (x0_1.length : Int)
   rotate_left
   ·rw [if_neg c13] at H; exact absurd H (by simp)
   rw [if_pos c13] at H
   have c13b0 : decide (x10_1 < (x0_1.length : Int)) = true := decide_eq_true c13
   (try (have c13b0l := c13b0; simp only [hl0_1] at c13b0l))
   clear c13
   replace H := bnd H
   obtain ⟨⟨t148, t149⟩, A140, H⟩ := H
   replace H : (n_less.l0 k1 (x0_1.set (x10_1 : Int).toNat t148) l1 t149 (l0.length : Int) (wrap64 (x10_1 + 1))) = some (r1, r2) := H
   have A14 := zMk A140
   clear A140
   obtain ⟨y150, hy150⟩ : ∃ y_ : List Int, y_ = (x0_1.set (x10_1 : Int).toNat t148) := ⟨_, rfl⟩
   replace H : (n_less.l0 k1 y150 l1 t149 (l0.length : Int) (wrap64 (x10_1 + 1))) = some (r1, r2) := by first | (rw [hy150]; with_reducible exact H) | (have H2_ := bsm H; first | (rw [hy150]; with_reducible exact H2_) | with_reducible exact H2_) | with_reducible exact H | (rw [hy150]; exact H) | exact H
   have Ny150 := zMk hy150
   clear hy150
   have H' := zMk H
   clear H
   have p147 : 0 ≤ (x10_1 : Int) := of_decide_eq_true (by assumption)
   have q147 : x10_1 < (x0_1.length : Int) := of_decide_eq_true (by assumption)
   obtain ⟨ad147, e147, hx147_0⟩ := zAi (zRr HO_0.out).2.2 x10_1 p147 q147
   cases e147
   replace p147 := eq_true p147
   replace q147 := eq_true q147
   go_wp2_with (first | ((with_reducible refine gate_callee (f:=80) rfl ?_); refine goesL_ (some 30) rfl rfl Tryd.func80 (by kernel_rfl) rfl #[.int .u32 (rd x0_1 x10_1), .int .u32 0, .int .u32 x5_1] rfl (by (try simp only [zMa, zMc, zMn]); first |  done|  rfl|  (simp only [zLd, zLt]; rfl)) ?_; (with_reducible refine (bits_Sub32.calls (rd x0_1 x10_1) 0 x5_1 t148 t149 _ A14.out).mono ?_); rintro e w' ⟨rfl, ⟨nd, rfl⟩⟩; refine ⟨_, rfl, ?_⟩; (try (rw [drewN_self wr]; generalize hq_ : World.drewN wr _ = wr; have n0_ : Aside0 (Kd.R (Kd.int .u32) 58 wr w0.heap.size (fun k_ => (P0_ k_ ∨ w.heap.size ≤ k_)) (.slice (some ad147) x0_1.length co3) x0_1) := ⟨by rw [← hq_]; exact (uR HO_0.out)⟩; have n1_ : Aside0 (Kept w wr (fun k_ => P0_ k_)) := ⟨by rw [← hq_]; exact (by repeat (first | (with_reducible first |  exact HK.out|  apply Kept.alloc|  apply Kept.drewN|  apply Kept.drew)|  exact HK.out))⟩; have n2_ : Aside0 (Below w0.heap.size w0 wr) := ⟨by rw [← hq_]; exact (uT HB.out)⟩; clear HO_0 HK HB hq_; have HO_0 := n0_; have HK := n1_; have HB := n2_; clear n0_ n1_ n2_)); have p15 : 0 ≤ (x10_1 : Int) := of_decide_eq_true (by first | (with_reducible assumption)|  assumption); have q15 : (x10_1 : Int) < ((x0_1.length : Int) : Int) := of_decide_eq_true (by first | (with_reducible assumption)|  assumption); obtain ⟨go15, co15, eo15, gb15, gl15, cl15, HG15⟩ := Kd.R_form HO_0.out (by omega); (first |  cases eo15|  (injection eo15 with ea_ en_ ec_; (first |  subst ea_|  (injection ea_ with ea_; subst ea_)); subst ec_; clear en_)); have GB15 := zMk gb15; have IGB15 := ownGe GB15.out; have GG15 := zMk HG15; clear gb15 gl15 HG15; have HMgo15 := zMk (show (P0_ go15 ∨ w.heap.size ≤ go15) from (HO_0.out.1 _ rfl)); (first |  simp only [add_plain] at hx147_0|  skip); obtain ⟨hx15_0, hf15_0⟩ := Kd.R_celln 0 HO_0.out (x10_1 : Int) p15 q15; replace p15 := eq_true p15; replace q15 := eq_true q15; obtain ⟨hy16_, hz16_⟩ := Kd.R_celln 0 HO_0.out (x10_1 : Int) (of_decide_eq_true (by first | (with_reducible assumption)|  assumption)) (of_decide_eq_true (by first | (with_reducible assumption)|  assumption)); have HP16 := Kd.R_putg HO_0.out (x10_1 : Int) t148)|((with_reducible refine gate_store (t:=58) (p:=33) rfl ?_); refine store_event (t:=58) (p:=33) (v:=?vo_w17) (w1:=(wr.setCell ⟨go15, (x10_1 : Int).toNat, none⟩ (.int .u32 t148))) ?hg ?ho ?hn ?hr ?_; (case ho => rfl); (case hg => rfl); (case hn => rfl); (case hr => first | (go_simp; done)|(go_simp; rfl)|(go_simp; rw [show ∀ x : Int, IntKind.u32.wrap (IntKind.u8.wrap x) = x % 256 from fun x => (by show (x % 256) % 4294967296 = x % 256; omega)])); intro w17 hw; have hg : wr.grownBy w17 (some go15) := (by rw [hw]; exact HP16.2); have hp_ : Kd.R (Kd.int .u32) 58 w17 w0.heap.size (fun k_ => (P0_ k_ ∨ w.heap.size ≤ k_)) (.slice (some ⟨go15, 0, none⟩) x0_1.length co3) y150 := (by rw [hw, Ny150.out]; exact HP16.1); clear HP16; replace HB := zMk ((by rw [hw]; exact below_set (HB.out) GB15.out : Below w0.heap.size w0 w17)); replace HK := zMk (Kept.of_grown (S:=(fun k_ => P0_ k_)) hg (by repeat (first | (with_reducible first |  exact HK.out|  apply Kept.alloc|  apply Kept.drewN|  apply Kept.drew)|  exact HK.out)) (fun k_ e_ => (HO_0.out.1 k_ e_))); replace HO_0 := zMk (hp_); clear hg hw hp_))
   (try simp only [← hl0_1])
   go_roundg k1
   case measure => have := HK1.out; omega
   case rel => exact ⟨(y150), (t149), (wrap64 (x10_1 + 1)), (by first | rfl | (simp; done) | (simp [*]; done)), (by first | rfl | (simp; done) | (simp [*]; done)), H', ⟨by have := HK1.out; omega⟩, ⟨by (try simp only [hl0_1]); exact uR HO_0.out⟩, ⟨by repeat (first | (with_reducible first | exact HK.out | apply Kept.alloc | apply Kept.drewN | apply Kept.drew) | exact HK.out)⟩, ⟨by exact uT HB.out⟩⟩
 ·rw [if_neg c4] at H
  have c4b0 : decide (x10_1 < (l0.length : Int)) = false := decide_eq_false c4
  (try (have c4b0l := c4b0; simp only [hl0_1] at c4b0l))
  clear c4
  simp only [Option.some.injEq, Prod.mk.injEq] at H
  obtain ⟨rfl, rfl⟩ := H
  go_wp2
  go_ret
  exact ⟨by first | rfl | (simp [errW_none, errW_some] <;> rfl) | (simp [*, errW_none, errW_some] <;> rfl), (by first | exact (uR HO_0.out) | (simp only [hl0_1]; exact (uR HO_0.out))), by exact uT HB.out, by repeat (first | (with_reducible first | exact HK.out | apply Kept.alloc | apply Kept.drewN | apply Kept.drew) | exact HK.out)⟩



def n_less_at.f (k : Nat) (l0 : List Int) (a1 a2 : Int) (l3 : List Int) : Option (Int × List Int) :=
 if a1.toNat ≤ a2.toNat then if a2.toNat ≤ l0.length then (n_less.f k ((l0.take a2.toNat).drop a1.toNat) l3).bind fun p => some (p.1, l0.take a1.toNat ++ (p.2 ++ l0.drop a2.toNat)) else none else none
def CutIs (v : Value) (a1 a2 : Int) (A' : Option Addr) (n' c' : Nat) : Prop :=
 match v with
 | .slice A _ c => A' = (if c = a1.toNat then A else A.map (·.add (a1.toNat * 1))) ∧ n' = a2.toNat - a1.toNat ∧ n' ≤ c'
 | _ => False
theorem CutIs.mk {A A' : Option Addr} {n c n' c' : Nat} {a1 a2 : Int} (hA : A' = (if c = a1.toNat then A else A.map (·.add (a1.toNat * 1)))) (hn : n' = a2.toNat - a1.toNat) (hc : n' ≤ c') : CutIs (.slice A n c) a1 a2 A' n' c' := ⟨hA, hn, hc⟩
theorem seg_set (X : List Int) (lo hi i : Nat) (v : Int) (hi2 : lo + i < hi) : ((X.set (lo + i) v).take hi).drop lo = ((X.take hi).drop lo).set i v := by
 rw [List.take_set, List.drop_set, if_neg (by omega), Nat.add_sub_cancel_left]
theorem seg_rd (X : List Int) (lo hi : Nat) (i : Int) (h0 : 0 ≤ i) (hi2 : lo + i.toNat < hi) : rd ((X.take hi).drop lo) i = rd X ((lo : Int) + i) := by
 unfold rd
 have : ((lo : Int) + i).toNat = lo + i.toNat := by omega
 rw [this]
 simp [List.getD_eq_getElem?_getD, List.getElem?_drop, List.getElem?_take, hi2]
theorem n_less_at.seg (k : Nat) (P0_ : Nat → Prop) (g L cap : Nat) (l0 : List Int) (lo hi c' : Nat) (hlo : lo < hi) (hhi : hi ≤ L) (hL : l0.length = L) (A3 : Option Addr) (c3 : Nat) (l3 : List Int) (r1 : Int) (s2 : List Int) (w0 w : World) (hB : Below w0.heap.size w0 w) (ho0 : Kd.R (Kd.int .u32) 58 w w0.heap.size P0_ (.slice (some ⟨g, 0, none⟩) L cap) l0) (hr3 : ∀ W_, Kept w W_ (fun k_ => P0_ k_) → Kd.C (Kd.int .u32) W_ A3 l3.length l3) (h : n_less.f k ((l0.take hi).drop lo) l3 = some (r1, s2)) :
  Calls Tryd.prog 61 #[.slice (some ⟨g, lo, none⟩) (hi - lo) c', .slice A3 l3.length c3] w fun e w' => e = .returned (.int .u32 r1) ∧ Kd.R (Kd.int .u32) 58 w' w0.heap.size (fun k_ => (P0_ k_ ∨ w.heap.size ≤ k_)) (.slice (some ⟨g, 0, none⟩) L cap) (l0.take lo ++ (s2 ++ l0.drop hi)) ∧ Below w0.heap.size w0 w' ∧ Kept w w' (fun k_ => P0_ k_) := by
 have HO0 := zMk (show Kd.R (Kd.int .u32) 58 w w0.heap.size (fun k_ => (P0_ k_ ∨ w.heap.size ≤ k_)) (.slice (some ⟨g, 0, none⟩) L cap) l0 from zRm ho0 (fun k_ hk => (.inl hk)))
 have HK := zMk (Kept.refl w (fun k_ => P0_ k_))
 have HR3 := zMk hr3
 have HB := zMk hB
 have HL := zMk hL
 have hgP : P0_ g := ho0.1 g rfl
 have hgB : w0.heap.size ≤ g := zRz ho0 g rfl
 have HG := zMk (And.intro hgP hgB)
 obtain ⟨m, hm⟩ : ∃ m, hi - lo = m := ⟨_, rfl⟩
 have hml : ((l0.take hi).drop lo).length = m := by rw [zLd, zLt]; omega
 have H : n_less.l0 k ((l0.take hi).drop lo) l3 0 (m : Int) 0 = some (r1, s2) := by rw [← hml]; exact h
 have HM := zMk hm
 have H' := zMk H
 have hmm : m ≤ 9223372036854775807 := by have := (zRr ho0).2.2.2.1; omega
 have hlm : l3.length ≤ 9223372036854775807 := (hr3 w (Kept.refl _ _)).2.1
 rw [hm]
 clear h ho0 hr3 hB hL hgP hgB hm hml H
 go_enter Tryd.func61, Tryd.ntmps61
 go_wp2
 go_loopg [5, 10] k (fun kq v5 v10 w' => ∃ (X : List Int) (x5 : Int) (x10 : Int), v5 = .int .u32 x5 ∧ v10 = .int .i64 x10 ∧ Aside0 (n_less.l0 kq ((X.take hi).drop lo) l3 x5 (m : Int) x10 = some (r1, s2)) ∧ Aside0 (kq ≤ k) ∧ Aside0 (X.length = L ∧ X.take lo = l0.take lo ∧ X.drop hi = l0.drop hi) ∧ Aside0 (Kd.R (Kd.int .u32) 58 w' w0.heap.size (fun k_ => (P0_ k_ ∨ w.heap.size ≤ k_)) (.slice (some ⟨g, 0, none⟩) L cap) X) ∧ Aside0 (Kept w w' (fun k_ => P0_ k_)) ∧ Aside0 (Below w0.heap.size w0 w'))
 case atStart => exact ⟨l0, 0, 0, rfl, rfl, H', ⟨Nat.le_refl _⟩, ⟨HL.out, rfl, rfl⟩, HO0, HK, HB⟩
 clear H' HO0 HK HB
 obtain ⟨X, x5, x10, rfl, rfl, HA, HK1, HX, HO, HK, HB⟩ := hrel
 rcases gk with _ | k1
 ·exact absurd HA.out (by simp [n_less.l0])
 have H := HA.out
 clear HA
 have hsl : ((X.take hi).drop lo).length = m := by rw [zLd, zLt]; have := HX.out.1; have := HM.out; omega
 have HSL := zMk hsl
 simp only [n_less.l0] at H
 rw [hsl] at H
 clear hsl
 by_cases c4 : x10 < (m : Int)
 ·rw [if_pos c4] at H
  by_cases c6 : 0 ≤ x10
  ·have hin : lo + x10.toNat < hi := by have := HM.out; omega
   have hin2 : ((lo : Int) + x10).toNat = lo + x10.toNat := by omega
   have hrd := seg_rd X lo hi x10 c6 hin
   obtain ⟨hcx, hfx⟩ := Kd.R_celln 0 (by rw [HX.out.1]; exact HO.out : Kd.R (Kd.int .u32) 58 wr w0.heap.size (fun k_ => (P0_ k_ ∨ w.heap.size ≤ k_)) (.slice (some ⟨g, 0, none⟩) X.length cap) X) ((lo : Int) + x10) (by omega) (by have := HX.out.1; omega)
   rw [hin2] at hcx hfx
   have hput := fun (t : Int) => Kd.R_putg (by rw [HX.out.1]; exact HO.out : Kd.R (Kd.int .u32) 58 wr w0.heap.size (fun k_ => (P0_ k_ ∨ w.heap.size ≤ k_)) (.slice (some ⟨g, 0, none⟩) X.length cap) X) ((lo : Int) + x10) t
   rw [hin2] at hput
   have HPUT := zMk hput
   have c4b0 : decide (x10 < (m : Int)) = true := decide_eq_true c4
   have c6b0 : decide (0 ≤ x10) = true := decide_eq_true c6
   have c6b1 := eq_true c6
   have c4b1 := eq_true c4
   have HIN := zMk hin
   have HC6 := zMk c6
   clear hput hin hin2
   by_cases c5 : x10 < (l3.length : Int)
   ·rw [if_pos c5, if_pos c6, if_pos c4] at H
    have c5b1 := eq_true c5
    have c5b0 : decide (x10 < (l3.length : Int)) = true := decide_eq_true c5
    obtain ⟨ad3, e3, hx3⟩ := zAi (Kd.C_kept_now HR3.out HK.out) x10 c6 c5
    subst e3
    obtain ⟨⟨t1, t2⟩, A80, H⟩ := bnd H
    rw [hrd] at A80
    have A8 := zMk A80
    have H' := zMk H
    clear A80 H hrd c4 c5 c6
    go_wp2_with (go_at_call 80; refine (bits_Sub32.calls (rd X ((lo : Int) + x10)) (rd l3 x10) x5 t1 t2 _ A8.out).mono ?_; rintro e w' ⟨rfl, ⟨nd, rfl⟩⟩)
    go_roundg k1
    case measure => have := HK1.out; omega
    case rel =>
     have hin := HIN.out
     have hX := HX.out
     have hc6 := HC6.out
     have hb := zBn (Below.refl wr.heap.size wr) nd
     have hR2 := Kd.R_putg (by rw [hX.1]; exact zRn HO.out nd : Kd.R (Kd.int .u32) 58 (wr.drewN nd) w0.heap.size (fun k_ => (P0_ k_ ∨ w.heap.size ≤ k_)) (.slice (some ⟨g, 0, none⟩) X.length cap) X) ((lo : Int) + x10) t1
     rw [show ((lo : Int) + x10).toNat = lo + x10.toNat by omega] at hR2
     refine ⟨X.set (lo + x10.toNat) t1, t2, wrap64 (x10 + 1), rfl, (by first | rfl | (simp; done) | (simp [*]; done)), ?_, ⟨by have := HK1.out; omega⟩, ⟨by rw [List.length_set]; exact hX.1, by rw [List.take_set, List.set_eq_of_length_le (by rw [zLt]; omega)]; exact hX.2.1, by rw [List.drop_set, if_pos hin]; exact hX.2.2⟩, ?_, ?_, ?_⟩
     ·exact ⟨by rw [seg_set _ _ _ _ _ hin]; exact H'.out⟩
     ·exact ⟨by have := hR2.1; rw [hX.1] at this; exact this⟩
     ·exact ⟨Kept.of_grown (S:=(fun k_ => P0_ k_)) hR2.2 (Kept.drewN HK.out _) (fun k_ e_ => by cases e_; exact .inl HG.out.1)⟩
     ·exact ⟨(zBn HB.out nd).setCell (p:=⟨g, lo + x10.toNat, none⟩) HG.out.2 _⟩
   ·rw [if_neg c5, if_pos c6, if_pos c4] at H
    have c5b0 : decide (x10 < (l3.length : Int)) = false := decide_eq_false c5
    obtain ⟨⟨t1, t2⟩, A80, H⟩ := bnd H
    rw [hrd] at A80
    have A8 := zMk A80
    have H' := zMk H
    clear A80 H hrd c4 c5 c6
    go_wp2_with (go_at_call 80; refine (bits_Sub32.calls (rd X ((lo : Int) + x10)) 0 x5 t1 t2 _ A8.out).mono ?_; rintro e w' ⟨rfl, ⟨nd, rfl⟩⟩)
    go_roundg k1
    case measure => have := HK1.out; omega
    case rel =>
     have hin := HIN.out
     have hX := HX.out
     have hc6 := HC6.out
     have hb := zBn (Below.refl wr.heap.size wr) nd
     have hR2 := Kd.R_putg (by rw [hX.1]; exact zRn HO.out nd : Kd.R (Kd.int .u32) 58 (wr.drewN nd) w0.heap.size (fun k_ => (P0_ k_ ∨ w.heap.size ≤ k_)) (.slice (some ⟨g, 0, none⟩) X.length cap) X) ((lo : Int) + x10) t1
     rw [show ((lo : Int) + x10).toNat = lo + x10.toNat by omega] at hR2
     refine ⟨X.set (lo + x10.toNat) t1, t2, wrap64 (x10 + 1), rfl, (by first | rfl | (simp; done) | (simp [*]; done)), ?_, ⟨by have := HK1.out; omega⟩, ⟨by rw [List.length_set]; exact hX.1, by rw [List.take_set, List.set_eq_of_length_le (by rw [zLt]; omega)]; exact hX.2.1, by rw [List.drop_set, if_pos hin]; exact hX.2.2⟩, ?_, ?_, ?_⟩
     ·exact ⟨by rw [seg_set _ _ _ _ _ hin]; exact H'.out⟩
     ·exact ⟨by have := hR2.1; rw [hX.1] at this; exact this⟩
     ·exact ⟨Kept.of_grown (S:=(fun k_ => P0_ k_)) hR2.2 (Kept.drewN HK.out _) (fun k_ e_ => by cases e_; exact .inl HG.out.1)⟩
     ·exact ⟨(zBn HB.out nd).setCell (p:=⟨g, lo + x10.toNat, none⟩) HG.out.2 _⟩
  ·by_cases c5 : x10 < (l3.length : Int)
   ·rw [if_pos c5, if_neg c6] at H; cases H
   ·rw [if_neg c5, if_neg c6] at H; cases H
 ·rw [if_neg c4] at H
  simp only [Option.some.injEq, Prod.mk.injEq] at H
  obtain ⟨rfl, rfl⟩ := H
  have c4b0 : decide (x10 < (m : Int)) = false := decide_eq_false c4
  clear c4
  go_wp2
  go_ret
  have hX := HX.out
  have hXe : l0.take lo ++ ((X.take hi).drop lo ++ l0.drop hi) = X := by
   rw [← hX.2.1, ← hX.2.2]
   have h1 : X.take lo = (X.take hi).take lo := by rw [List.take_take, Nat.min_eq_left (by omega)]
   rw [h1, ← List.append_assoc, List.take_append_drop, List.take_append_drop]
  exact ⟨rfl, by rw [hXe]; exact HO.out, HB.out, HK.out⟩
theorem n_less_at.calls (k : Nat) (P0_ : Nat → Prop) (u9000_ : Value) (l0 : List Int) (a1 : Int) (a2 : Int) (A3 : Option Addr) (c3 : Nat) (l3 : List Int) (r1 : Int) (r2 : List Int) (w0 w : World) (hB : Below w0.heap.size w0 w) (ho0 : Kd.R (Kd.int .u32) 58 w w0.heap.size P0_ u9000_ l0) (hr3 : ∀ W_, Kept w W_ (fun k_ => P0_ k_) → Kd.C (Kd.int .u32) W_ A3 l3.length l3) (hc3 : l3.length ≤ c3) (h : n_less_at.f k l0 a1 a2 l3 = some (r1, r2)) (A' : Option Addr) (n' c' : Nat) (hcut : CutIs u9000_ a1 a2 A' n' c') :
  Calls Tryd.prog 61 #[.slice A' n' c', .slice A3 l3.length c3] w fun e w' => e = .returned (.int .u32 r1) ∧ Kd.R (Kd.int .u32) 58 w' w0.heap.size (fun k_ => (P0_ k_ ∨ w.heap.size ≤ k_)) u9000_ r2 ∧ Below w0.heap.size w0 w' ∧ Kept w w' (fun k_ => P0_ k_) := by
 unfold n_less_at.f at h
 by_cases h1 : a1.toNat ≤ a2.toNat
 ·by_cases h2 : a2.toNat ≤ l0.length
  ·rw [if_pos h1, if_pos h2] at h
   obtain ⟨⟨t1, s2⟩, h3, h4⟩ := bnd h
   simp only [Option.some.injEq, Prod.mk.injEq] at h4
   obtain ⟨rfl, rfl⟩ := h4
   rcases Nat.lt_or_ge a1.toNat a2.toNat with hlt | hge
   ·obtain ⟨g, cap, rfl, _, _, _⟩ := Kd.R_form ho0 (by omega)
    obtain ⟨e1, e2, e3⟩ := hcut
    have hcap := (zRr ho0).2.1
    rw [if_neg (by omega)] at e1
    have e4 : A' = some ⟨g, a1.toNat, none⟩ := by rw [e1]; simp [add_plain]
    subst e4 e2
    exact n_less_at.seg k P0_ g l0.length cap l0 a1.toNat a2.toNat c' hlt h2 rfl A3 c3 l3 t1 s2 w0 w hB ho0 hr3 h3
   ·have hseg : (l0.take a2.toNat).drop a1.toNat = [] := List.eq_nil_of_length_eq_zero (by rw [zLd, zLt]; omega)
    have heq : a2.toNat = a1.toNat := by omega
    obtain ⟨A0, c0, rfl⟩ := zRs ho0
    obtain ⟨e1, e2, e3⟩ := hcut
    have e4 : n' = 0 := by omega
    subst e4
    rw [hseg] at h3
    have h5 : t1 = 0 ∧ s2 = [] := by
     cases k with
     | zero => simp [n_less.f, n_less.l0] at h3
     | succ k =>
      simp only [n_less.f, n_less.l0, zLn] at h3
      rw [if_neg (by omega)] at h3
      simp only [Option.some.injEq, Prod.mk.injEq] at h3
      exact ⟨h3.1.symm, h3.2.symm⟩
    obtain ⟨rfl, rfl⟩ := h5
    have hfin : l0.take a1.toNat ++ ([] ++ l0.drop a2.toNat) = l0 := by rw [heq, List.nil_append, List.take_append_drop]
    rw [hfin]
    have HO := zMk ho0
    have HB := zMk hB
    clear h h1 h2 h3 hge hseg heq e1 e2 e3 ho0 hr3 hc3 hB
    go_enter Tryd.func61, Tryd.ntmps61
    go_wp2
    go_loop [5, 10] (fun v5 v10 => v5 = .int .u32 0 ∧ v10 = .int .i64 0) (fun _ _ => 0)
    case atStart => exact ⟨rfl, rfl⟩
    obtain ⟨rfl, rfl⟩ := hrel
    go_wp2
    go_ret
    exact ⟨rfl, zRm HO.out (fun k_ hk => .inl hk), HB.out, Kept.refl _ _⟩
  ·rw [if_pos h1, if_neg h2] at h; cases h
 ·rw [if_neg h1] at h; cases h


def bits_Add32.f (a0 : Int) (a1 : Int) (a2 : Int) : Option (Int × Int) := some ((IntKind.u64.wrap ((IntKind.u64.wrap ((IntKind.u64.wrap (a0)) + (IntKind.u64.wrap (a1)))) + (IntKind.u64.wrap (a2)))) % 4294967296, ((IntKind.u64.wrap ((IntKind.u64.wrap ((IntKind.u64.wrap (a0)) + (IntKind.u64.wrap (a1)))) + (IntKind.u64.wrap (a2)))) / 4294967296) % 4294967296)
theorem bits_Add32.calls (a0 : Int) (a1 : Int) (a2 : Int) (r1 : Int) (r2 : Int) (w : World) (h : bits_Add32.f a0 a1 a2 = some (r1, r2)) :
    Calls Tryd.prog 62 #[.int .u32 a0, .int .u32 a1, .int .u32 a2] w fun e w' => e = .returned (.tuple #[.int .u32 r1, .int .u32 r2]) ∧ Drawn0 w w' := by
  have H : (some ((IntKind.u64.wrap ((IntKind.u64.wrap ((IntKind.u64.wrap (a0)) + (IntKind.u64.wrap (a1)))) + (IntKind.u64.wrap (a2)))) % 4294967296, ((IntKind.u64.wrap ((IntKind.u64.wrap ((IntKind.u64.wrap (a0)) + (IntKind.u64.wrap (a1)))) + (IntKind.u64.wrap (a2)))) / 4294967296) % 4294967296)) = some (r1, r2) := h
  clear h
  simp only [Option.some.injEq, Prod.mk.injEq] at H
  obtain ⟨rfl, rfl⟩ := H
  go_enter Tryd.func62, Tryd.ntmps62
  go_wp2
  go_ret2
  exact ⟨by first | rfl | (simp; done) | (simp [*]; done), by repeat (first | exact Drawn0.refl _ | apply Drawn0.step)⟩

end Go.Proofs.YtnjmnicgknggfaaDoor.D
