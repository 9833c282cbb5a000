/- Lemmas for the statement: the walks of the functions that it reaches, and plain laws. -/
import Derived.Test.YtnigaojboililaaVMore
import Derived.Test.YtnigaojboililaaVN
import Derived.Test.YtnigaojboililaaProg
import Derived.Below
import Derived.Deep.Draws
import Derived.Deep.AppendLies
import Derived.Maps.AppendAt
import Derived.OwnWalk
import Derived.Laws.BytesArg
import Derived.Laws.MakeOwn
import Derived.Laws.OwnMore
import Derived.Deep.OwnRows
import Derived.Tactics
import Derived.Lib.ConvBytes
import Derived.Laws.Slices
import Derived.WalkKit
import Derived.KernelRfl
import Derived.RowKit3
import Derived.Deep.LoopGhost
import Derived.Deep.QuietTactic
import Derived.BigQuiet
import Derived.WideLaws
import Derived.Deep.DeepCutAuto
import Derived.Deep.CutBlock
import Derived.Deep.RegionHeld3
import Derived.Laws.Rows
import Derived.Lib.AppendStr
import Derived.ArgAppend
import Derived.Laws.IdiomCopy
import Derived.OrdersHeld
import Derived.Laws.BitsLemmas
import Derived.RowKit
import Derived.WalkSpells
import Derived.RangeFuncNested
import Derived.RangeFuncBound
import Derived.RangeFuncCalls
import Derived.RangeFuncLeaves
import Derived.Shelf.Abstract
import Derived.Shelf.RegionOpen
import Derived.OwnWalkIn
import Derived.TacticsInMore
import Derived.LoopNIn
import Derived.LoopIn
import Derived.StillTailTactics
import Derived.OrdersIn
import Derived.TacticsIn
import Derived.Deep.RegionWith
import Derived.Sort.Grow
import Derived.Laws.CopyOwn
import Derived.Test.YtnigaojboililaaVWords
import Derived.Test.YtnigaojboililaaVLast
import Derived.Test.YtnigaojboililaaVTab
import Derived.Test.YtnigaojboililaaVQPut
import Derived.Test.YtnigaojboililaaVApart
import Derived.Test.YtnigaojboililaaVArr
import Derived.Test.YtnigaojboililaaVZeros
import Derived.Test.YtnigaojboililaaVFoot
import Derived.Test.YtnigaojboililaaVKept
import Derived.Test.YtnigaojboililaaVShare
import Derived.Test.YtnigaojboililaaVFootNe
import Derived.Test.YtnigaojboililaaVEqStruct
import Derived.Test.YtnigaojboililaaVRepsOne
import Derived.Test.YtnigaojboililaaVInv
import Derived.Test.YtnigaojboililaaVInvWords
import Derived.Test.YtnigaojboililaaVGuard
import Derived.Test.YtnigaojboililaaVNEv
set_option linter.unusedVariables false
set_option linter.unusedSimpArgs false
set_option maxHeartbeats 8000000
set_option maxRecDepth 100000
namespace Go.Proofs.YtnigaojboililaaW.PrintWords
open Go Go.RowKit Go.Proofs.YtnigaojboililaaW.PrintWords Go.Proofs.YtnigaojboililaaW.PrintLast Go.Proofs.YtnigaojboililaaW.PrintMore
attribute [local go_sem] max2_int min2_int max_two min_two max_three min_three max_four min_four
open Go.Proofs.YtnigaojboililaaW.PrintWords.Kd renaming R_alloc → zRa, R_drewN → zRn, R_drew → zRd, C_alloc → zCa, C_drewN → zCn, C_drew → zCd, R_mono → zRm, at_int → zAi, R_elder' → zRe, R_lower → zRl, R_new' → zRw, R_lt → zRt, R_below → zRb, R_base → zRz, R_reads' → zRr, R_slice → zRs
open Go.Proofs.YtnigaojboililaaW.PrintWords renaming pw_below_drewN → zBn, below_alloc → zBa, below_drew1 → zBd, below_size → zBs, below_step → zBt, blk_drewN → zKn, blk_drew → zKd, blk_alloc → zKa, blk_below → zKb, blk_cell → zKc, blk_frozen → zKf
open List renaming setIfInBounds_toArray → zSa, set_cons_zero → zSb, set_cons_succ → zSc, length_drop → zLd, length_take → zLt, map_toArray → zMa, map_cons → zMc, map_nil → zMn
open Go.Proofs.YtnigaojboililaaW.PrintWords.Aside0 renaming mk → zMk
open Option renaming bind_eq_some_iff → zBi, bind_some → zOb
open Option.some renaming inj → zOi
open Int renaming toNat_natCast → zTn
structure Up (W W1 : World) : Prop where
  b : Below W.heap.size W W1
instance upRefl (W : World) : Nonempty (Up W W) := ⟨⟨Below.refl _ _⟩⟩
instance upAlloc (W W1 : World) (o : Obj) [h : Nonempty (Up W W1)] : Nonempty (Up W (W1.alloc o)) := ⟨⟨zBa (h.elim fun u => u.b) o⟩⟩
instance upDrew (W W1 : World) [h : Nonempty (Up W W1)] : Nonempty (Up W W1.drew) := ⟨⟨below_drew (h.elim fun u => u.b)⟩⟩
instance upDrewN (W W1 : World) (n : Nat) [h : Nonempty (Up W W1)] : Nonempty (Up W (W1.drewN n)) := ⟨⟨zBn (h.elim fun u => u.b) n⟩⟩
structure Own (w : World) (g : Nat) : Prop where
  h : w.heap.size ≤ g
theorem ownGe {w : World} {g : Nat} (h : w.heap.size ≤ g) : Nonempty (Own w g) := ⟨⟨h⟩⟩
structure UpB (w W W1 : World) : Prop where
  f : Below w.heap.size w W → Below w.heap.size w W1
instance upbRefl (w W : World) : Nonempty (UpB w W W) := ⟨⟨id⟩⟩
instance upbAlloc (w W W1 : World) (o : Obj) [h : Nonempty (UpB w W W1)] : Nonempty (UpB w W (W1.alloc o)) := ⟨⟨fun x => zBa (h.elim fun u => u.f x) o⟩⟩
instance upbDrew (w W W1 : World) [h : Nonempty (UpB w W W1)] : Nonempty (UpB w W W1.drew) := ⟨⟨fun x => below_drew (h.elim fun u => u.f x)⟩⟩
instance upbDrewN (w W W1 : World) (n : Nat) [h : Nonempty (UpB w W W1)] : Nonempty (UpB w W (W1.drewN n)) := ⟨⟨fun x => zBn (h.elim fun u => u.f x) n⟩⟩
instance upbSet (w W W1 : World) (g j : Nat) (v : Value) [h : Nonempty (UpB w W W1)] [g0 : Nonempty (Own w g)] : Nonempty (UpB w W (W1.setCell ⟨g, j, none⟩ v)) := ⟨⟨fun x => below_set (h.elim fun u => u.f x) (g0.elim fun u => u.h)⟩⟩
theorem uT {w W W1 : World} (h : Below w.heap.size w W) [u : Nonempty (UpB w W W1)] : Below w.heap.size w W1 := (u.elim fun u => u.f) h
theorem uR {α : Type} {d : Kd α} {e base : Nat} {ok : Nat → Prop} {v : Value} {xs : List α} {W W1 : World} (h : d.R e W base ok v xs) [u : Nonempty (Up W W1)] : d.R e W1 base ok v xs := zRb h (u.elim fun u => u.b)
theorem uC {α : Type} {d : Kd α} {A : Option Addr} {n : Nat} {xs : List α} {W W1 : World} (h : d.C W A n xs) [u : Nonempty (Up W W1)] : d.C W1 A n xs := Kd.C_below h (u.elim fun u => u.b)
theorem bnd {α β : Type} {x : Option α} {f : α → Option β} {b : β} (h : x.bind f = some b) : ∃ a, x = some a ∧ f a = some b := Option.bind_eq_some_iff.mp h
theorem bsm {α β : Type} {x : α} {f : α → Option β} {b : Option β} (h : (some x).bind f = b) : f x = b := h
end Go.Proofs.YtnigaojboililaaW.PrintWords
namespace Go.Proofs.Ytnigaojboililaa.A
open Go Go.RowKit Go.Proofs.YtnigaojboililaaW.PrintWords Go.Proofs.YtnigaojboililaaW.PrintLast Go.Proofs.YtnigaojboililaaW.PrintMore
attribute [local go_sem] max2_int min2_int max_two min_two max_three min_three max_four min_four
open Go.Proofs.YtnigaojboililaaW.PrintWords.Kd renaming R_alloc → zRa, R_drewN → zRn, R_drew → zRd, C_alloc → zCa, C_drewN → zCn, C_drew → zCd, R_mono → zRm, at_int → zAi, R_elder' → zRe, R_lower → zRl, R_new' → zRw, R_lt → zRt, R_below → zRb, R_base → zRz, R_reads' → zRr, R_slice → zRs
open Go.Proofs.YtnigaojboililaaW.PrintWords renaming pw_below_drewN → zBn, below_alloc → zBa, below_drew1 → zBd, below_size → zBs, below_step → zBt, blk_drewN → zKn, blk_drew → zKd, blk_alloc → zKa, blk_below → zKb, blk_cell → zKc, blk_frozen → zKf
open List renaming setIfInBounds_toArray → zSa, set_cons_zero → zSb, set_cons_succ → zSc, length_drop → zLd, length_take → zLt, map_toArray → zMa, map_cons → zMc, map_nil → zMn
open Go.Proofs.YtnigaojboililaaW.PrintWords.Aside0 renaming mk → zMk
open Option renaming bind_eq_some_iff → zBi, bind_some → zOb
open Option.some renaming inj → zOi
open Int renaming toNat_natCast → zTn



def errW : Option Int → Value
  | none => .nilIface
  | some c => .iface 0 (.int .i64 c)
theorem errW_none : errW none = .nilIface := rfl
theorem errW_some (c : Int) : errW (some c) = .iface 0 (.int .i64 c) := rfl

theorem info2 : (Try.prog.info? 2).map (fun i => (i.zero, i.size, i.bytes)) = some (some (.int .i64 0), 1, 8) := by kernel_rfl
theorem info3 : (Try.prog.info? 3).map (fun i => (i.zero, i.size, i.bytes)) = some (some (.int .i64 0), 1, 8) := by kernel_rfl
theorem info4 : (Try.prog.info? 4).map (fun i => (i.zero, i.size, i.bytes)) = some (some (.bool false), 1, 1) := by kernel_rfl
theorem info31 : (Try.prog.info? 31).map (fun i => (i.zero, i.size, i.bytes)) = some (some (.slice none 0 0), 1, 24) := by kernel_rfl
theorem info48 : (Try.prog.info? 48).map (fun i => (i.zero, i.size, i.bytes)) = some (some (.agg #[(.int .i64 0), (.int .i64 0), (.int .i64 0)]), 3, 24) := by kernel_rfl
-- the values' own types
structure S39 where
  f0 : Int
  f1 : Int
  f2 : Int
def z39 : S39 := ⟨(0 : Int), (0 : Int), (0 : Int)⟩
def k39 : Kd S39 := Kd.iso (Kd.pair (Kd.int .i64) (Kd.pair (Kd.int .i64) (Kd.int .i64))) (fun x : S39 => (x.f0, x.f1, x.f2))
theorem k39_open {w : World} {x : S39} {cs : List Value} (h : k39.K w x cs) : cs = [.int .i64 x.f0, .int .i64 x.f1, .int .i64 x.f2] := by
  obtain ⟨_, _, rfl, rfl, ⟨_, _, rfl, rfl, rfl⟩⟩ := h
  exact rfl
theorem k39_mk (w : World) (x : S39)  : k39.K w x [.int .i64 x.f0, .int .i64 x.f1, .int .i64 x.f2] := ⟨[.int .i64 x.f0], [.int .i64 x.f1, .int .i64 x.f2], rfl, rfl, ⟨[.int .i64 x.f1], [.int .i64 x.f2], rfl, rfl, rfl⟩⟩
theorem k39_mkM (w : World) (base : Nat) (ok : Nat → Prop) (x : S39)  : k39.M w base ok x [.int .i64 x.f0, .int .i64 x.f1, .int .i64 x.f2] := ⟨[.int .i64 x.f0], [.int .i64 x.f1, .int .i64 x.f2], rfl, rfl, ⟨[.int .i64 x.f1], [.int .i64 x.f2], rfl, rfl, rfl⟩⟩
def rd_T39 (xs : List S39) (i : Int) : S39 := xs.getD i.toNat z39
theorem at_T39 {w : World} {A : Option Addr} {n : Nat} {xs : List S39} (h : Kd.C k39 w A n xs) (i : Int) (h0 : 0 ≤ i) (h1 : i < n) : ∃ ad , A = some ad ∧ w.cell? (ad.add (i.toNat * 3)) = some (.int .i64 (rd_T39 xs i).f0) ∧ w.cell? ⟨(ad.add (i.toNat * 3)).block, (ad.add (i.toNat * 3)).off + 1, none⟩ = some (.int .i64 (rd_T39 xs i).f1) ∧ w.cell? ⟨(ad.add (i.toNat * 3)).block, (ad.add (i.toNat * 3)).off + 2, none⟩ = some (.int .i64 (rd_T39 xs i).f2) := by
  obtain ⟨ad, c, e, _, hK, hc0⟩ := Kd.C_get h z39 i h0 h1
  have hc : ∀ j u, c[j]? = some u → w.cell? (ad.add (i.toNat * 3 + j)) = some u := hc0
  obtain rfl := k39_open hK
  exact ⟨ad, e, hc 0 _ rfl, by rw [← add_field _ _ 1 (by omega)]; exact hc 1 _ rfl, by rw [← add_field _ _ 2 (by omega)]; exact hc 2 _ rfl⟩

def rd_L3 (xs : List (List Int)) (i : Int) : (List Int) := xs.getD i.toNat ([] : List Int)
theorem at_L3 {w : World} {A : Option Addr} {n : Nat} {xs : List (List Int)} (h : Kd.C (Kd.slice 3 (Kd.int .i64)) w A n xs) (i : Int) (h0 : 0 ≤ i) (h1 : i < n) : ∃ ad A0 c0, A = some ad ∧ w.cell? (ad.add i.toNat) = some (.slice A0 (rd_L3 xs i).length c0) ∧ (rd_L3 xs i).length ≤ c0 ∧ (Kd.int .i64).C w A0 (rd_L3 xs i).length (rd_L3 xs i) := by
  obtain ⟨ad, c, e, _, hK, hc0⟩ := Kd.C_get h ([] : List Int) i h0 h1
  have hc : ∀ j u, c[j]? = some u → w.cell? (ad.add (i.toNat * 1 + j)) = some u := hc0
  obtain ⟨A0, c0, rfl, l0, g0⟩ := hK
  exact ⟨ad, A0, c0, e, by have hq := hc 0 _ rfl; rwa [Nat.mul_one, Nat.add_zero] at hq, l0, g0⟩

structure S48 where
  f0 : Int
  f1 : Int
  f2 : Int
def z48 : S48 := ⟨(0 : Int), (0 : Int), (0 : Int)⟩
def k48 : Kd S48 := Kd.iso (Kd.pair (Kd.int .i64) (Kd.pair (Kd.int .i64) (Kd.int .i64))) (fun x : S48 => (x.f0, x.f1, x.f2))
theorem k48_open {w : World} {x : S48} {cs : List Value} (h : k48.K w x cs) : cs = [.int .i64 x.f0, .int .i64 x.f1, .int .i64 x.f2] := by
  obtain ⟨_, _, rfl, rfl, ⟨_, _, rfl, rfl, rfl⟩⟩ := h
  exact rfl
theorem k48_openM {w : World} {base : Nat} {ok : Nat → Prop} {x : S48} {cs : List Value} (h : k48.M w base ok x cs) : cs = [.int .i64 x.f0, .int .i64 x.f1, .int .i64 x.f2] := by
  obtain ⟨_, _, rfl, rfl, ⟨_, _, rfl, rfl, rfl⟩⟩ := h
  exact rfl
theorem k48_mkM (w : World) (base : Nat) (ok : Nat → Prop) (x : S48)  : k48.M w base ok x [.int .i64 x.f0, .int .i64 x.f1, .int .i64 x.f2] := ⟨[.int .i64 x.f0], [.int .i64 x.f1, .int .i64 x.f2], rfl, rfl, ⟨[.int .i64 x.f1], [.int .i64 x.f2], rfl, rfl, rfl⟩⟩
def rd_T48 (xs : List S48) (i : Int) : S48 := xs.getD i.toNat z48
theorem at_T48 {w : World} {A : Option Addr} {n : Nat} {xs : List S48} (h : Kd.C k48 w A n xs) (i : Int) (h0 : 0 ≤ i) (h1 : i < n) : ∃ ad , A = some ad ∧ w.cell? (ad.add (i.toNat * 3)) = some (.int .i64 (rd_T48 xs i).f0) ∧ w.cell? ⟨(ad.add (i.toNat * 3)).block, (ad.add (i.toNat * 3)).off + 1, none⟩ = some (.int .i64 (rd_T48 xs i).f1) ∧ w.cell? ⟨(ad.add (i.toNat * 3)).block, (ad.add (i.toNat * 3)).off + 2, none⟩ = some (.int .i64 (rd_T48 xs i).f2) := by
  obtain ⟨ad, c, e, _, hK, hc0⟩ := Kd.C_get h z48 i h0 h1
  have hc : ∀ j u, c[j]? = some u → w.cell? (ad.add (i.toNat * 3 + j)) = some u := hc0
  obtain rfl := k48_open hK
  exact ⟨ad, e, hc 0 _ rfl, by rw [← add_field _ _ 1 (by omega)]; exact hc 1 _ rfl, by rw [← add_field _ _ 2 (by omega)]; exact hc 2 _ rfl⟩


mutual
def paths_Right.l0 : Nat → List (S39) → Int → Int → Int → List (S39) → Option (Int)
  | 0, _, _, _, _, _ => none
  | k + 1, x18, x19, x20, x102000, x102001 => if x20 < x19 then (if 0 ≤ x20 then (if x20 < (x18.length : Int) then (if (mn ((rd_T39 x18 x20).f0) ((rd_T39 x18 x20).f1)) < 0 then (paths_Right.j1 k x18 x19 x20 (decide ((mn ((rd_T39 x18 x20).f0) ((rd_T39 x18 x20).f1)) < 0)) x102000 x102001 ((rd_T39 x18 x20).f0) ((rd_T39 x18 x20).f1) ((rd_T39 x18 x20).f2)) else (paths_Right.j1 k x18 x19 x20 (decide ((mx ((rd_T39 x18 x20).f0) ((rd_T39 x18 x20).f1)) ≥ x102000)) x102000 x102001 ((rd_T39 x18 x20).f0) ((rd_T39 x18 x20).f1) ((rd_T39 x18 x20).f2))) else (none)) else (none)) else (some 0)
def paths_Right.j1 : Nat → List (S39) → Int → Int → Bool → Int → List (S39) → Int → Int → Int → Option (Int)
  | 0, _, _, _, _, _, _, _, _, _ => none
  | k + 1, x18, x19, x20, x24, x102000, x102001, x104000, x104001, x104002 => if x24 = true then (some 5) else (if x104002 < 0 then (some 10) else (if x104002 ≥ 2147483648 then (some 8) else (paths_Right.l0 k x18 x19 (wrap64 (x20 + 1)) x102000 x102001)))
end
def paths_Right.f (k : Nat) (a0_0 : Int) (l0_1 : List (S39)) : Option (Int) := if a0_0 < 0 then (some 1) else (if a0_0 > 1048576 then (some 4) else (if (l0_1.length : Int) > 4194304 then (some 4) else (paths_Right.l0 k l0_1 (l0_1.length : Int) 0 a0_0 l0_1)))
theorem paths_Right.calls (k : Nat) (a0_0 : Int) (A0_1 : Option Addr) (c0_1 : Nat) (l0_1 : List (S39)) (r : Int) (w : World) (hr0_1 : Kd.C k39 w A0_1 l0_1.length l0_1) (hc0_1 : l0_1.length ≤ c0_1) (h : paths_Right.f k a0_0 l0_1 = some r) :
    Calls Try.prog 7 #[.agg #[.int .i64 a0_0, .slice A0_1 l0_1.length c0_1]] w fun e w' => e = .returned (.int .i64 r) ∧ Below w.heap.size w w' := by
  have hu24 := Try.underlying24
  have hu39 := Try.underlying39
  have HR0_1 := zMk hr0_1
  have HC0_1 := zMk hc0_1
  clear hr0_1 hc0_1
  have HB := zMk (Below.refl w.heap.size w)
  have H : (if a0_0 < 0 then (some 1) else (if a0_0 > 1048576 then (some 4) else (if (l0_1.length : Int) > 4194304 then (some 4) else (paths_Right.l0 k l0_1 (l0_1.length : Int) 0 a0_0 l0_1)))) = some r := h
  clear h
  by_cases c2 : a0_0 < 0
  · rw [if_pos c2] at H
    have c2b0 : decide (a0_0 < 0) = true := decide_eq_true c2
    clear c2
    obtain rfl := zOi H
    go_enter Try.func7, Try.ntmps7
    go_wp2_with (first | ((with_reducible refine gate_dst (N := 1) rfl ?_); refine box_event ?hg (N := 1) ?hd (cs := #[.int .i64 a0_0, .slice A0_1 l0_1.length c0_1]) (t := 24) ?hr ?_; (case hd => rfl); (case hg => rfl); (case hr => first | (go_simp; done)|(go_simp; rfl)|(go_simp; rw [show ∀ x : Int, IntKind.u32.wrap (IntKind.u8.wrap x) = x % 256 from fun x => (by show (x % 256) % 4294967296 = x % 256; omega)])); intro gb101 hg w3 hbox hb; have BK101 := zMk (hbox); have GW101 := zMk ((by rw [hg]; exact (zBs (by exact uT HB.out)) : w.heap.size ≤ gb101)); have GE101 := zMk ((by rw [hg]; exact (zBs (by exact uT HB.out)) : w.heap.size ≤ gb101)); have IGE101 := ownGe GE101.out; replace HB := zMk (zBt (by exact uT HB.out) hb); clear hb hbox hg; have hcz4_0 : w3.cell? ⟨gb101, 0, none⟩ = some (.int .i64 a0_0) := (zKc BK101.out 0).trans rfl; have hcz4_1 : w3.cell? ⟨gb101, 1, none⟩ = some (.slice A0_1 l0_1.length c0_1) := (zKc BK101.out 1).trans rfl; have hfz4_0 := zKf BK101.out 0; have hfz4_1 := zKf BK101.out 1))
    go_ret
    exact ⟨by first | rfl | (simp [errW_none, errW_some] <;> rfl) | (simp [*, errW_none, errW_some] <;> rfl), by exact uT HB.out⟩
  · rw [if_neg c2] at H
    have c2b0 : decide (a0_0 < 0) = false := decide_eq_false c2
    clear c2
    by_cases c5 : a0_0 > 1048576
    · rw [if_pos c5] at H
      have c5b0 : decide (1048576 < a0_0) = true := decide_eq_true c5
      clear c5
      obtain rfl := zOi H
      go_enter Try.func7, Try.ntmps7
      go_wp2_with (first | ((with_reducible refine gate_dst (N := 1) rfl ?_); refine box_event ?hg (N := 1) ?hd (cs := #[.int .i64 a0_0, .slice A0_1 l0_1.length c0_1]) (t := 24) ?hr ?_; (case hd => rfl); (case hg => rfl); (case hr => first | (go_simp; done)|(go_simp; rfl)|(go_simp; rw [show ∀ x : Int, IntKind.u32.wrap (IntKind.u8.wrap x) = x % 256 from fun x => (by show (x % 256) % 4294967296 = x % 256; omega)])); intro gb101 hg w6 hbox hb; have BK101 := zMk (hbox); have GW101 := zMk ((by rw [hg]; exact (zBs (by exact uT HB.out)) : w.heap.size ≤ gb101)); have GE101 := zMk ((by rw [hg]; exact (zBs (by exact uT HB.out)) : w.heap.size ≤ gb101)); have IGE101 := ownGe GE101.out; replace HB := zMk (zBt (by exact uT HB.out) hb); clear hb hbox hg; have hcz7_0 : w6.cell? ⟨gb101, 0, none⟩ = some (.int .i64 a0_0) := (zKc BK101.out 0).trans rfl; have hcz7_1 : w6.cell? ⟨gb101, 1, none⟩ = some (.slice A0_1 l0_1.length c0_1) := (zKc BK101.out 1).trans rfl; have hfz7_0 := zKf BK101.out 0; have hfz7_1 := zKf BK101.out 1))
      go_ret
      exact ⟨by first | rfl | (simp [errW_none, errW_some] <;> rfl) | (simp [*, errW_none, errW_some] <;> rfl), by exact uT HB.out⟩
    · rw [if_neg c5] at H
      have c5b0 : decide (1048576 < a0_0) = false := decide_eq_false c5
      clear c5
      by_cases c8 : (l0_1.length : Int) > 4194304
      · rw [if_pos c8] at H
        have c8b0 : decide (4194304 < (l0_1.length : Int)) = true := decide_eq_true c8
        have c8b1 : decide (4194304 < l0_1.length) = true := decide_eq_true (by omega)
        clear c8
        obtain rfl := zOi H
        go_enter Try.func7, Try.ntmps7
        go_wp2_with (first | ((with_reducible refine gate_dst (N := 1) rfl ?_); refine box_event ?hg (N := 1) ?hd (cs := #[.int .i64 a0_0, .slice A0_1 l0_1.length c0_1]) (t := 24) ?hr ?_; (case hd => rfl); (case hg => rfl); (case hr => first | (go_simp; done)|(go_simp; rfl)|(go_simp; rw [show ∀ x : Int, IntKind.u32.wrap (IntKind.u8.wrap x) = x % 256 from fun x => (by show (x % 256) % 4294967296 = x % 256; omega)])); intro gb101 hg w9 hbox hb; have BK101 := zMk (hbox); have GW101 := zMk ((by rw [hg]; exact (zBs (by exact uT HB.out)) : w.heap.size ≤ gb101)); have GE101 := zMk ((by rw [hg]; exact (zBs (by exact uT HB.out)) : w.heap.size ≤ gb101)); have IGE101 := ownGe GE101.out; replace HB := zMk (zBt (by exact uT HB.out) hb); clear hb hbox hg; have hcz10_0 : w9.cell? ⟨gb101, 0, none⟩ = some (.int .i64 a0_0) := (zKc BK101.out 0).trans rfl; have hcz10_1 : w9.cell? ⟨gb101, 1, none⟩ = some (.slice A0_1 l0_1.length c0_1) := (zKc BK101.out 1).trans rfl; have hfz10_0 := zKf BK101.out 0; have hfz10_1 := zKf BK101.out 1))
        go_ret
        exact ⟨by first | rfl | (simp [errW_none, errW_some] <;> rfl) | (simp [*, errW_none, errW_some] <;> rfl), by exact uT HB.out⟩
      · rw [if_neg c8] at H
        have c8b0 : decide (4194304 < (l0_1.length : Int)) = false := decide_eq_false c8
        have c8b1 : decide (4194304 < l0_1.length) = false := decide_eq_false (by omega)
        clear c8
        have H' := zMk H
        clear H
        go_enter Try.func7, Try.ntmps7
        go_wp2_with (first | ((with_reducible refine gate_dst (N := 1) rfl ?_); refine box_event ?hg (N := 1) ?hd (cs := #[.int .i64 a0_0, .slice A0_1 l0_1.length c0_1]) (t := 24) ?hr ?_; (case hd => rfl); (case hg => rfl); (case hr => first | (go_simp; done)|(go_simp; rfl)|(go_simp; rw [show ∀ x : Int, IntKind.u32.wrap (IntKind.u8.wrap x) = x % 256 from fun x => (by show (x % 256) % 4294967296 = x % 256; omega)])); intro gb101 hg w11 hbox hb; have BK101 := zMk (hbox); have GW101 := zMk ((by rw [hg]; exact (zBs (by exact uT HB.out)) : w.heap.size ≤ gb101)); have GE101 := zMk ((by rw [hg]; exact (zBs (by exact uT HB.out)) : w.heap.size ≤ gb101)); have IGE101 := ownGe GE101.out; replace HB := zMk (zBt (by exact uT HB.out) hb); clear hb hbox hg; have hcz12_0 : w11.cell? ⟨gb101, 0, none⟩ = some (.int .i64 a0_0) := (zKc BK101.out 0).trans rfl; have hcz12_1 : w11.cell? ⟨gb101, 1, none⟩ = some (.slice A0_1 l0_1.length c0_1) := (zKc BK101.out 1).trans rfl; have hfz12_0 := zKf BK101.out 0; have hfz12_1 := zKf BK101.out 1))
        go_loopg [20] k (fun kq v20 w' => ∃ (x20_1 : Int), v20 = .int .i64 x20_1 ∧ Aside0 (paths_Right.l0 kq l0_1 (l0_1.length : Int) x20_1 a0_0 l0_1 = some r) ∧ Aside0 (kq ≤ k) ∧ Aside0 (w'.heap[gb101]? = some (.cells #[.int .i64 a0_0, (.slice A0_1 l0_1.length c0_1)] 24 (0, 0))) ∧ Aside0 (Below w.heap.size w w'))
        case atStart => exact ⟨(0), (by first | rfl | (simp; done) | (simp [*]; done)), H', ⟨Nat.le_refl _⟩, ⟨by (with_reducible repeat (first | refine zKn ?_ _ | refine zKd ?_ | refine zKa ?_ _)); exact BK101.out⟩, ⟨by exact uT HB.out⟩⟩
        clear H'
        obtain ⟨x20_1, rfl, HA, HK1, BK101, HB⟩ := hrel
        rcases gk with _ | k1
        · exact absurd HA.out (by simp [paths_Right.l0])
        have H := HA.out
        clear HA
        simp only [paths_Right.l0] at H
        by_cases c13 : x20_1 < (l0_1.length : Int)
        · rw [if_pos c13] at H
          have c13b0 : decide (x20_1 < (l0_1.length : Int)) = true := decide_eq_true c13
          clear c13
          by_cases c14 : 0 ≤ x20_1
          rotate_left
          · rw [if_neg c14] at H; exact absurd H (by simp)
          rw [if_pos c14] at H
          have c14b0 : decide (0 ≤ x20_1) = true := decide_eq_true c14
          clear c14
          by_cases c15 : x20_1 < (l0_1.length : Int)
          rotate_left
          · rw [if_neg c15] at H; exact absurd H (by simp)
          rw [if_pos c15] at H
          have c15b0 : decide (x20_1 < (l0_1.length : Int)) = true := decide_eq_true c15
          clear c15
          obtain ⟨ji16, hji16⟩ : ∃ j_ : Int, (mn ((rd_T39 l0_1 x20_1).f0) ((rd_T39 l0_1 x20_1).f1)) = j_ := ⟨_, rfl⟩
          replace H : (if (ji16) < 0 then (paths_Right.j1 k1 l0_1 (l0_1.length : Int) x20_1 (decide ((ji16) < 0)) a0_0 l0_1 ((rd_T39 l0_1 x20_1).f0) ((rd_T39 l0_1 x20_1).f1) ((rd_T39 l0_1 x20_1).f2)) else (paths_Right.j1 k1 l0_1 (l0_1.length : Int) x20_1 (decide ((mx ((rd_T39 l0_1 x20_1).f0) ((rd_T39 l0_1 x20_1).f1)) ≥ a0_0)) a0_0 l0_1 ((rd_T39 l0_1 x20_1).f0) ((rd_T39 l0_1 x20_1).f1) ((rd_T39 l0_1 x20_1).f2))) = some r := by first | (rw [hji16] at H; exact H) | (simp only [hji16] at H ⊢; exact H)
          have hji16_ : (if ((rd_T39 l0_1 x20_1).f1) < ((rd_T39 l0_1 x20_1).f0) then ((rd_T39 l0_1 x20_1).f1) else ((rd_T39 l0_1 x20_1).f0)) = ji16 := hji16
          have HC17 := zMk H
          clear H
          have p102 : 0 ≤ (x20_1 : Int) := of_decide_eq_true (by assumption)
          have q102 : x20_1 < (l0_1.length : Int) := of_decide_eq_true (by assumption)
          obtain ⟨ad102, e102, hx102_0, hx102_1, hx102_2⟩ := at_T39 HR0_1.out x20_1 p102 q102
          cases e102
          replace hx102_0 := (HB.out.cell (World.block_lt_of_cell? w _ hx102_0)).trans hx102_0
          replace hx102_1 := (HB.out.cell (World.block_lt_of_cell? w _ hx102_1)).trans hx102_1
          replace hx102_2 := (HB.out.cell (World.block_lt_of_cell? w _ hx102_2)).trans hx102_2
          replace p102 := eq_true p102
          replace q102 := eq_true q102
          go_upto_if 24 with (first | ((with_reducible refine gate_dst (N := 4) rfl ?_); refine box_event ?hg (N := 4) ?hd (cs := #[.int .i64 0, .int .i64 0, .int .i64 0]) (t := 39) ?hr ?_; (case hd => rfl); (case hg => rfl); (case hr => first | (go_simp; done)|(go_simp; rfl)|(go_simp; rw [show ∀ x : Int, IntKind.u32.wrap (IntKind.u8.wrap x) = x % 256 from fun x => (by show (x % 256) % 4294967296 = x % 256; omega)])); intro gb103 hg w18 hbox hb; have BK103 := zMk (hbox); have GW103 := zMk ((by rw [hg]; exact (zBs (by exact uT HB.out)) : w.heap.size ≤ gb103)); have GE103 := zMk ((by rw [hg]; exact (zBs (by exact uT HB.out)) : w.heap.size ≤ gb103)); have IGE103 := ownGe GE103.out; replace HB := zMk (zBt (by exact uT HB.out) hb); have NB101_103 := zMk ((by rw [hg]; exact Nat.ne_of_lt (blk_lt (g := gb101) (o := .cells #[.int .i64 a0_0, .slice (some ad102) l0_1.length c0_1] 24 (0, 0)) (by (with_reducible repeat (first |  refine zKn ?_ _|  refine zKd ?_|  refine zKa ?_ _)); exact BK101.out)) : gb101 ≠ gb103)); have NB103_101 := zMk ((by rw [hg]; exact Nat.ne_of_gt (blk_lt (g := gb101) (o := .cells #[.int .i64 a0_0, .slice (some ad102) l0_1.length c0_1] 24 (0, 0)) (by (with_reducible repeat (first |  refine zKn ?_ _|  refine zKd ?_|  refine zKa ?_ _)); exact BK101.out)) : gb103 ≠ gb101)); replace BK101 := zMk (zKb (g := gb101) (o := .cells #[.int .i64 a0_0, .slice (some ad102) l0_1.length c0_1] 24 (0, 0)) (by (with_reducible repeat (first |  refine zKn ?_ _|  refine zKd ?_|  refine zKa ?_ _)); exact BK101.out) hb); clear hb hbox hg; have hnb19 := NB103_101.out; have hnc19 := NB101_103.out; have hcz20_0 : w18.cell? ⟨gb103, 0, none⟩ = some (.int .i64 0) := (zKc BK103.out 0).trans rfl; have hcz20_1 : w18.cell? ⟨gb103, 1, none⟩ = some (.int .i64 0) := (zKc BK103.out 1).trans rfl; have hcz20_2 : w18.cell? ⟨gb103, 2, none⟩ = some (.int .i64 0) := (zKc BK103.out 2).trans rfl; have hfz20_0 := zKf BK103.out 0; have hfz20_1 := zKf BK103.out 1; have hfz20_2 := zKf BK103.out 2))
          (try simp only [Act.put, zSa, zSb, zSc])
          go_cut [24] (fun v24 wc => ∃ (kq : Nat) (x24_16 : Bool), v24 = .bool x24_16 ∧ Aside0 (paths_Right.j1 kq l0_1 (l0_1.length : Int) x20_1 x24_16 a0_0 l0_1 ((rd_T39 l0_1 x20_1).f0) ((rd_T39 l0_1 x20_1).f1) ((rd_T39 l0_1 x20_1).f2) = some r) ∧ Aside0 (kq ≤ k1) ∧ Aside0 (wc.heap[gb101]? = some (.cells #[.int .i64 a0_0, (.slice (some ad102) l0_1.length c0_1)] 24 (0, 0))) ∧ Aside0 (wc.heap[gb103]? = some (.cells #[.int .i64 ((rd_T39 l0_1 x20_1).f0), .int .i64 ((rd_T39 l0_1 x20_1).f1), .int .i64 ((rd_T39 l0_1 x20_1).f2)] 39 (0, 0))) ∧ Aside0 (Below w.heap.size w wc))
          case first =>
            have H := HC17.out
            clear HC17
            by_cases c21 : (ji16) < 0
            · rw [if_pos c21] at H
              have c21b0 : decide ((ji16) < 0) = true := decide_eq_true c21
              clear c21
              (first | rw [c21b0] | (simp only [i64_w, i32_w]; rw [c21b0]) | rw [c21b1] | skip)
              have H' := zMk H
              clear H
              go_wp2
              go_meet
              case rel => exact ⟨_, (decide ((ji16) < 0)), (by first | rfl | (simp; done) | (simp only [← hji16] <;> (first | rfl | (simp; done))) | (refine congrArg Value.bool ?_; first | (symm; assumption) | (rw [eq_comm]; assumption)) | (simp [*]; done)), H', ⟨by have := HK1.out; first | omega | exact Nat.le_refl _⟩, ⟨by (with_reducible repeat (first | refine zKn ?_ _ | refine zKd ?_ | refine zKa ?_ _)); refine blk_far ?_ NB101_103.out _; (with_reducible repeat (first | refine zKn ?_ _ | refine zKd ?_ | refine zKa ?_ _)); refine blk_far ?_ NB101_103.out _; (with_reducible repeat (first | refine zKn ?_ _ | refine zKd ?_ | refine zKa ?_ _)); refine blk_far ?_ NB101_103.out _; (with_reducible repeat (first | refine zKn ?_ _ | refine zKd ?_ | refine zKa ?_ _)); exact BK101.out⟩, ⟨by (with_reducible repeat (first | refine zKn ?_ _ | refine zKd ?_ | refine zKa ?_ _)); refine blk_put (cs := #[.int .i64 ((rd_T39 l0_1 x20_1).f0), .int .i64 ((rd_T39 l0_1 x20_1).f1), .int .i64 0]) ?_ 2 _ rfl; (with_reducible repeat (first | refine zKn ?_ _ | refine zKd ?_ | refine zKa ?_ _)); refine blk_put (cs := #[.int .i64 ((rd_T39 l0_1 x20_1).f0), .int .i64 0, .int .i64 0]) ?_ 1 _ rfl; (with_reducible repeat (first | refine zKn ?_ _ | refine zKd ?_ | refine zKa ?_ _)); refine blk_put (cs := #[.int .i64 0, .int .i64 0, .int .i64 0]) ?_ 0 _ rfl; (with_reducible repeat (first | refine zKn ?_ _ | refine zKd ?_ | refine zKa ?_ _)); exact BK103.out⟩, ⟨by exact uT HB.out⟩⟩
            · rw [if_neg c21] at H
              have c21b0 : decide ((ji16) < 0) = false := decide_eq_false c21
              clear c21
              (first | rw [c21b0] | (simp only [i64_w, i32_w]; rw [c21b0]) | rw [c21b1] | skip)
              obtain ⟨ji22, hji22⟩ : ∃ j_ : Int, (mx ((rd_T39 l0_1 x20_1).f0) ((rd_T39 l0_1 x20_1).f1)) = j_ := ⟨_, rfl⟩
              replace H : (paths_Right.j1 k1 l0_1 (l0_1.length : Int) x20_1 (decide ((ji22) ≥ a0_0)) a0_0 l0_1 ((rd_T39 l0_1 x20_1).f0) ((rd_T39 l0_1 x20_1).f1) ((rd_T39 l0_1 x20_1).f2)) = some r := by first | (rw [hji22] at H; exact H) | (simp only [hji22] at H ⊢; exact H)
              have hji22_ : (if ((rd_T39 l0_1 x20_1).f0) < ((rd_T39 l0_1 x20_1).f1) then ((rd_T39 l0_1 x20_1).f1) else ((rd_T39 l0_1 x20_1).f0)) = ji22 := hji22
              have H' := zMk H
              clear H
              have hnb23 := NB103_101.out
              have hnc23 := NB101_103.out
              have hcz24_0 : w18.cell? ⟨gb103, 0, none⟩ = some (.int .i64 0) := (zKc BK103.out 0).trans rfl
              have hcz24_1 : w18.cell? ⟨gb103, 1, none⟩ = some (.int .i64 0) := (zKc BK103.out 1).trans rfl
              have hcz24_2 : w18.cell? ⟨gb103, 2, none⟩ = some (.int .i64 0) := (zKc BK103.out 2).trans rfl
              have hfz24_0 := zKf BK103.out 0
              have hfz24_1 := zKf BK103.out 1
              have hfz24_2 := zKf BK103.out 2
              have hcz25_0 : w18.cell? ⟨gb101, 0, none⟩ = some (.int .i64 a0_0) := (zKc BK101.out 0).trans rfl
              have hcz25_1 : w18.cell? ⟨gb101, 1, none⟩ = some (.slice (some ad102) l0_1.length c0_1) := (zKc BK101.out 1).trans rfl
              have hfz25_0 := zKf BK101.out 0
              have hfz25_1 := zKf BK101.out 1
              go_wp2
              go_meet
              case rel => exact ⟨_, (decide ((ji22) ≥ a0_0)), (by first | rfl | (simp; done) | (simp only [← hji22] <;> (first | rfl | (simp; done))) | (refine congrArg Value.bool ?_; first | (symm; assumption) | (rw [eq_comm]; assumption)) | (simp [*]; done)), H', ⟨by have := HK1.out; first | omega | exact Nat.le_refl _⟩, ⟨by (with_reducible repeat (first | refine zKn ?_ _ | refine zKd ?_ | refine zKa ?_ _)); refine blk_far ?_ NB101_103.out _; (with_reducible repeat (first | refine zKn ?_ _ | refine zKd ?_ | refine zKa ?_ _)); refine blk_far ?_ NB101_103.out _; (with_reducible repeat (first | refine zKn ?_ _ | refine zKd ?_ | refine zKa ?_ _)); refine blk_far ?_ NB101_103.out _; (with_reducible repeat (first | refine zKn ?_ _ | refine zKd ?_ | refine zKa ?_ _)); exact BK101.out⟩, ⟨by (with_reducible repeat (first | refine zKn ?_ _ | refine zKd ?_ | refine zKa ?_ _)); refine blk_put (cs := #[.int .i64 ((rd_T39 l0_1 x20_1).f0), .int .i64 ((rd_T39 l0_1 x20_1).f1), .int .i64 0]) ?_ 2 _ rfl; (with_reducible repeat (first | refine zKn ?_ _ | refine zKd ?_ | refine zKa ?_ _)); refine blk_put (cs := #[.int .i64 ((rd_T39 l0_1 x20_1).f0), .int .i64 0, .int .i64 0]) ?_ 1 _ rfl; (with_reducible repeat (first | refine zKn ?_ _ | refine zKd ?_ | refine zKa ?_ _)); refine blk_put (cs := #[.int .i64 0, .int .i64 0, .int .i64 0]) ?_ 0 _ rfl; (with_reducible repeat (first | refine zKn ?_ _ | refine zKd ?_ | refine zKa ?_ _)); exact BK103.out⟩, ⟨by exact uT HB.out⟩⟩
          case rest =>
            clear HC17
            obtain ⟨kq, x24_16, rfl, HA, HJ16, BK101, BK103, HB⟩ := hcut
            rcases kq with _ | kj16
            · exact absurd HA.out (by simp [paths_Right.j1])
            have H := HA.out
            clear HA
            simp only [paths_Right.j1] at H
            by_cases c26 : x24_16 = true
            · subst c26
              replace H : (some 5) = some r := by rw [if_pos rfl] at H; exact H
              obtain rfl := zOi H
              go_wp2
              go_ret
              exact ⟨by first | rfl | (simp [errW_none, errW_some] <;> rfl) | (simp only [← hji16]; first | rfl | (simp [errW_none, errW_some] <;> rfl)) | (simp [*, errW_none, errW_some] <;> rfl), by exact uT HB.out⟩
            · replace c26 := Bool.eq_false_iff.mpr c26
              subst c26
              replace H : (if ((rd_T39 l0_1 x20_1).f2) < 0 then (some 10) else (if ((rd_T39 l0_1 x20_1).f2) ≥ 2147483648 then (some 8) else (paths_Right.l0 kj16 l0_1 (l0_1.length : Int) (wrap64 (x20_1 + 1)) a0_0 l0_1))) = some r := by rw [if_neg (show ¬ (false = true) by decide)] at H; exact H
              by_cases c27 : ((rd_T39 l0_1 x20_1).f2) < 0
              · rw [if_pos c27] at H
                have c27b0 : decide (((rd_T39 l0_1 x20_1).f2) < 0) = true := decide_eq_true c27
                clear c27
                obtain rfl := zOi H
                have hnb28 := NB103_101.out
                have hnc28 := NB101_103.out
                have hcz29_0 : wc.cell? ⟨gb103, 0, none⟩ = some (.int .i64 ((rd_T39 l0_1 x20_1).f0)) := (zKc BK103.out 0).trans rfl
                have hcz29_1 : wc.cell? ⟨gb103, 1, none⟩ = some (.int .i64 ((rd_T39 l0_1 x20_1).f1)) := (zKc BK103.out 1).trans rfl
                have hcz29_2 : wc.cell? ⟨gb103, 2, none⟩ = some (.int .i64 ((rd_T39 l0_1 x20_1).f2)) := (zKc BK103.out 2).trans rfl
                have hfz29_0 := zKf BK103.out 0
                have hfz29_1 := zKf BK103.out 1
                have hfz29_2 := zKf BK103.out 2
                go_wp2
                go_ret
                exact ⟨by first | rfl | (simp [errW_none, errW_some] <;> rfl) | (simp only [← hji16]; first | rfl | (simp [errW_none, errW_some] <;> rfl)) | (simp [*, errW_none, errW_some] <;> rfl), by exact uT HB.out⟩
              · rw [if_neg c27] at H
                have c27b0 : decide (((rd_T39 l0_1 x20_1).f2) < 0) = false := decide_eq_false c27
                clear c27
                by_cases c30 : ((rd_T39 l0_1 x20_1).f2) ≥ 2147483648
                · rw [if_pos c30] at H
                  have c30b0 : decide (2147483648 ≤ ((rd_T39 l0_1 x20_1).f2)) = true := decide_eq_true c30
                  clear c30
                  obtain rfl := zOi H
                  have hnb31 := NB103_101.out
                  have hnc31 := NB101_103.out
                  have hcz32_0 : wc.cell? ⟨gb103, 0, none⟩ = some (.int .i64 ((rd_T39 l0_1 x20_1).f0)) := (zKc BK103.out 0).trans rfl
                  have hcz32_1 : wc.cell? ⟨gb103, 1, none⟩ = some (.int .i64 ((rd_T39 l0_1 x20_1).f1)) := (zKc BK103.out 1).trans rfl
                  have hcz32_2 : wc.cell? ⟨gb103, 2, none⟩ = some (.int .i64 ((rd_T39 l0_1 x20_1).f2)) := (zKc BK103.out 2).trans rfl
                  have hfz32_0 := zKf BK103.out 0
                  have hfz32_1 := zKf BK103.out 1
                  have hfz32_2 := zKf BK103.out 2
                  go_wp2
                  go_ret
                  exact ⟨by first | rfl | (simp [errW_none, errW_some] <;> rfl) | (simp only [← hji16]; first | rfl | (simp [errW_none, errW_some] <;> rfl)) | (simp [*, errW_none, errW_some] <;> rfl), by exact uT HB.out⟩
                · rw [if_neg c30] at H
                  have c30b0 : decide (2147483648 ≤ ((rd_T39 l0_1 x20_1).f2)) = false := decide_eq_false c30
                  clear c30
                  have H' := zMk H
                  clear H
                  have hnb33 := NB103_101.out
                  have hnc33 := NB101_103.out
                  have hcz34_0 : wc.cell? ⟨gb103, 0, none⟩ = some (.int .i64 ((rd_T39 l0_1 x20_1).f0)) := (zKc BK103.out 0).trans rfl
                  have hcz34_1 : wc.cell? ⟨gb103, 1, none⟩ = some (.int .i64 ((rd_T39 l0_1 x20_1).f1)) := (zKc BK103.out 1).trans rfl
                  have hcz34_2 : wc.cell? ⟨gb103, 2, none⟩ = some (.int .i64 ((rd_T39 l0_1 x20_1).f2)) := (zKc BK103.out 2).trans rfl
                  have hfz34_0 := zKf BK103.out 0
                  have hfz34_1 := zKf BK103.out 1
                  have hfz34_2 := zKf BK103.out 2
                  go_wp2
                  go_roundg kj16
                  case measure => have := HK1.out; have := HJ16.out; omega
                  case rel => exact ⟨(wrap64 (x20_1 + 1)), (by first | rfl | (simp; done) | (simp [*]; done)), H', ⟨by have := HK1.out; have := HJ16.out; omega⟩, ⟨by (with_reducible repeat (first | refine zKn ?_ _ | refine zKd ?_ | refine zKa ?_ _)); exact BK101.out⟩, ⟨by exact uT HB.out⟩⟩
        · rw [if_neg c13] at H
          have c13b0 : decide (x20_1 < (l0_1.length : Int)) = false := decide_eq_false c13
          clear c13
          obtain rfl := zOi H
          go_wp2
          go_ret
          exact ⟨by first | rfl | (simp [errW_none, errW_some] <;> rfl) | (simp [*, errW_none, errW_some] <;> rfl), by exact uT HB.out⟩


mutual
def filigreeref12_Right.j0 : Nat → Bool → Int → List (S39) → Option (Int)
  | 0, _, _, _ => none
  | k + 1, x16, x187000, x187001 => if x16 = true then (some 4) else (filigreeref12_Right.l0 k 0 x187000 x187001)
def filigreeref12_Right.l0 : Nat → Int → Int → List (S39) → Option (Int)
  | 0, _, _, _ => none
  | k + 1, x3, x187000, x187001 => if x3 < (x187001.length : Int) then (if 0 ≤ x3 then (if ((rd_T39 x187001 x3).f0) < 0 then (filigreeref12_Right.j2 k x3 true x187000 x187001 ((rd_T39 x187001 x3).f0) ((rd_T39 x187001 x3).f1) ((rd_T39 x187001 x3).f2)) else (if ((rd_T39 x187001 x3).f0) ≥ x187000 then (filigreeref12_Right.j2 k x3 true x187000 x187001 ((rd_T39 x187001 x3).f0) ((rd_T39 x187001 x3).f1) ((rd_T39 x187001 x3).f2)) else (if ((rd_T39 x187001 x3).f1) < 0 then (filigreeref12_Right.j2 k x3 true x187000 x187001 ((rd_T39 x187001 x3).f0) ((rd_T39 x187001 x3).f1) ((rd_T39 x187001 x3).f2)) else (filigreeref12_Right.j2 k x3 (decide (((rd_T39 x187001 x3).f1) ≥ x187000)) x187000 x187001 ((rd_T39 x187001 x3).f0) ((rd_T39 x187001 x3).f1) ((rd_T39 x187001 x3).f2))))) else (none)) else (some 0)
def filigreeref12_Right.j2 : Nat → Int → Bool → Int → List (S39) → Int → Int → Int → Option (Int)
  | 0, _, _, _, _, _, _, _ => none
  | k + 1, x3, x50, x187000, x187001, x189000, x189001, x189002 => if x50 = true then (some 5) else (if x189002 < 0 then (some 10) else (if x189002 ≥ 2147483648 then (some 8) else (filigreeref12_Right.l0 k (wrap64 (x3 + 1)) x187000 x187001)))
end
def filigreeref12_Right.f (k : Nat) (a0_0 : Int) (l0_1 : List (S39)) : Option (Int) := if a0_0 < 0 then (some 1) else (if a0_0 > 1048576 then (filigreeref12_Right.j0 k true a0_0 l0_1) else (filigreeref12_Right.j0 k (decide ((l0_1.length : Int) > 4194304)) a0_0 l0_1))
theorem filigreeref12_Right.calls (k : Nat) (a0_0 : Int) (A0_1 : Option Addr) (c0_1 : Nat) (l0_1 : List (S39)) (r : Int) (w : World) (hr0_1 : Kd.C k39 w A0_1 l0_1.length l0_1) (hc0_1 : l0_1.length ≤ c0_1) (h : filigreeref12_Right.f k a0_0 l0_1 = some r) :
    Calls Try.prog 8 #[.agg #[.int .i64 a0_0, .slice A0_1 l0_1.length c0_1]] w fun e w' => e = .returned (.int .i64 r) ∧ Below w.heap.size w w' := by
  have hu24 := Try.underlying24
  have hu39 := Try.underlying39
  have HR0_1 := zMk hr0_1
  have HC0_1 := zMk hc0_1
  clear hr0_1 hc0_1
  have HB := zMk (Below.refl w.heap.size w)
  have H : (if a0_0 < 0 then (some 1) else (if a0_0 > 1048576 then (filigreeref12_Right.j0 k true a0_0 l0_1) else (filigreeref12_Right.j0 k (decide ((l0_1.length : Int) > 4194304)) a0_0 l0_1))) = some r := h
  clear h
  by_cases c2 : a0_0 < 0
  · rw [if_pos c2] at H
    have c2b0 : decide (a0_0 < 0) = true := decide_eq_true c2
    clear c2
    obtain rfl := zOi H
    go_enter Try.func8, Try.ntmps8
    go_wp2_with (first | ((with_reducible refine gate_dst (N := 1) rfl ?_); (try (refine gate_guard (by rfl) ?_; dsimp only)); refine box_event ?hg (N := 1) ?hd (cs := #[.int .i64 a0_0, .slice A0_1 l0_1.length c0_1]) (t := 24) ?hr ?_; (case hd => rfl); (case hg => rfl); (case hr => first | (go_simp; done)|(go_simp; rfl)|(go_simp; rw [show ∀ x : Int, IntKind.u32.wrap (IntKind.u8.wrap x) = x % 256 from fun x => (by show (x % 256) % 4294967296 = x % 256; omega)])); intro gb186 hg w3 hbox hb; have BK186 := zMk (hbox); have GW186 := zMk ((by rw [hg]; exact (zBs (by exact uT HB.out)) : w.heap.size ≤ gb186)); have GE186 := zMk ((by rw [hg]; exact (zBs (by exact uT HB.out)) : w.heap.size ≤ gb186)); have IGE186 := ownGe GE186.out; replace HB := zMk (zBt (by exact uT HB.out) hb); clear hb hbox hg; have hcz4_0 : w3.cell? ⟨gb186, 0, none⟩ = some (.int .i64 a0_0) := (zKc BK186.out 0).trans rfl; have hcz4_1 : w3.cell? ⟨gb186, 1, none⟩ = some (.slice A0_1 l0_1.length c0_1) := (zKc BK186.out 1).trans rfl; have hfz4_0 := zKf BK186.out 0; have hfz4_1 := zKf BK186.out 1))
    go_ret
    exact ⟨by first | rfl | (simp [errW_none, errW_some] <;> rfl) | (simp [*, errW_none, errW_some] <;> rfl), by exact uT HB.out⟩
  · rw [if_neg c2] at H
    have c2b0 : decide (a0_0 < 0) = false := decide_eq_false c2
    clear c2
    have HC5 := zMk H
    clear H
    go_enter Try.func8, Try.ntmps8
    go_upto_region 3 with (first | ((with_reducible refine gate_dst (N := 1) rfl ?_); (try (refine gate_guard (by rfl) ?_; dsimp only)); refine box_event ?hg (N := 1) ?hd (cs := #[.int .i64 a0_0, .slice A0_1 l0_1.length c0_1]) (t := 24) ?hr ?_; (case hd => rfl); (case hg => rfl); (case hr => first | (go_simp; done)|(go_simp; rfl)|(go_simp; rw [show ∀ x : Int, IntKind.u32.wrap (IntKind.u8.wrap x) = x % 256 from fun x => (by show (x % 256) % 4294967296 = x % 256; omega)])); intro gb186 hg w6 hbox hb; have BK186 := zMk (hbox); have GW186 := zMk ((by rw [hg]; exact (zBs (by exact uT HB.out)) : w.heap.size ≤ gb186)); have GE186 := zMk ((by rw [hg]; exact (zBs (by exact uT HB.out)) : w.heap.size ≤ gb186)); have IGE186 := ownGe GE186.out; replace HB := zMk (zBt (by exact uT HB.out) hb); clear hb hbox hg; have hcz7_0 : w6.cell? ⟨gb186, 0, none⟩ = some (.int .i64 a0_0) := (zKc BK186.out 0).trans rfl; have hcz7_1 : w6.cell? ⟨gb186, 1, none⟩ = some (.slice A0_1 l0_1.length c0_1) := (zKc BK186.out 1).trans rfl; have hfz7_0 := zKf BK186.out 0; have hfz7_1 := zKf BK186.out 1))
    (try simp only [Act.put, zSa, zSb, zSc])
    go_cut [16] (fun v16 wc => ∃ (kq : Nat) (x16_4 : Bool), v16 = .bool x16_4 ∧ Aside0 (filigreeref12_Right.j0 kq x16_4 a0_0 l0_1 = some r) ∧ Aside0 (kq ≤ k) ∧ Aside0 (wc.heap[gb186]? = some (.cells #[.int .i64 a0_0, (.slice A0_1 l0_1.length c0_1)] 24 (0, 0))) ∧ Aside0 (Below w.heap.size w wc))
    case first =>
      have H := HC5.out
      clear HC5
      by_cases c8 : a0_0 > 1048576
      · rw [if_pos c8] at H
        have c8b0 : decide (1048576 < a0_0) = true := decide_eq_true c8
        clear c8
        (first | rw [c8b0] | (simp only [i64_w, i32_w]; rw [c8b0]) | rw [c8b1] | skip)
        have H' := zMk H
        clear H
        have hcz9_0 : w6.cell? ⟨gb186, 0, none⟩ = some (.int .i64 a0_0) := (zKc BK186.out 0).trans rfl
        have hcz9_1 : w6.cell? ⟨gb186, 1, none⟩ = some (.slice A0_1 l0_1.length c0_1) := (zKc BK186.out 1).trans rfl
        have hfz9_0 := zKf BK186.out 0
        have hfz9_1 := zKf BK186.out 1
        go_wp2
        go_meet
        case rel => exact ⟨_, (true), (by first | rfl | (simp; done) | (simp [*]; done)), H', ⟨by first | omega | exact Nat.le_refl _⟩, ⟨by (with_reducible repeat (first | refine zKn ?_ _ | refine zKd ?_ | refine zKa ?_ _)); exact BK186.out⟩, ⟨by exact uT HB.out⟩⟩
      · rw [if_neg c8] at H
        have c8b0 : decide (1048576 < a0_0) = false := decide_eq_false c8
        clear c8
        (first | rw [c8b0] | (simp only [i64_w, i32_w]; rw [c8b0]) | rw [c8b1] | skip)
        have H' := zMk H
        clear H
        have hcz10_0 : w6.cell? ⟨gb186, 0, none⟩ = some (.int .i64 a0_0) := (zKc BK186.out 0).trans rfl
        have hcz10_1 : w6.cell? ⟨gb186, 1, none⟩ = some (.slice A0_1 l0_1.length c0_1) := (zKc BK186.out 1).trans rfl
        have hfz10_0 := zKf BK186.out 0
        have hfz10_1 := zKf BK186.out 1
        go_wp2
        go_meet
        case rel => exact ⟨_, (decide ((l0_1.length : Int) > 4194304)), (by first | rfl | (simp; done) | (simp [*]; done)), H', ⟨by first | omega | exact Nat.le_refl _⟩, ⟨by (with_reducible repeat (first | refine zKn ?_ _ | refine zKd ?_ | refine zKa ?_ _)); exact BK186.out⟩, ⟨by exact uT HB.out⟩⟩
    case rest =>
      clear HC5
      obtain ⟨kq, x16_4, rfl, HA, HJ4, BK186, HB⟩ := hcut
      rcases kq with _ | kj4
      · exact absurd HA.out (by simp [filigreeref12_Right.j0])
      have H := HA.out
      clear HA
      simp only [filigreeref12_Right.j0] at H
      by_cases c11 : x16_4 = true
      · subst c11
        replace H : (some 4) = some r := by rw [if_pos rfl] at H; exact H
        obtain rfl := zOi H
        go_wp2
        go_ret
        exact ⟨by first | rfl | (simp [errW_none, errW_some] <;> rfl) | (simp [*, errW_none, errW_some] <;> rfl), by exact uT HB.out⟩
      · replace c11 := Bool.eq_false_iff.mpr c11
        subst c11
        replace H : (filigreeref12_Right.l0 kj4 0 a0_0 l0_1) = some r := by rw [if_neg (show ¬ (false = true) by decide)] at H; exact H
        have H' := zMk H
        clear H
        go_wp2
        go_loopg [3] kj4 (fun kq v3 w' => ∃ (x3_2 : Int), v3 = .int .i64 x3_2 ∧ Aside0 (filigreeref12_Right.l0 kq x3_2 a0_0 l0_1 = some r) ∧ Aside0 (kq ≤ kj4) ∧ Aside0 (w'.heap[gb186]? = some (.cells #[.int .i64 a0_0, (.slice A0_1 l0_1.length c0_1)] 24 (0, 0))) ∧ Aside0 (Below w.heap.size w w'))
        case atStart => exact ⟨(0), (by first | rfl | (simp; done) | (simp [*]; done)), H', ⟨Nat.le_refl _⟩, ⟨by (with_reducible repeat (first | refine zKn ?_ _ | refine zKd ?_ | refine zKa ?_ _)); exact BK186.out⟩, ⟨by exact uT HB.out⟩⟩
        clear H'
        obtain ⟨x3_2, rfl, HA, HK2, BK186, HB⟩ := hrel
        rcases gk with _ | k2
        · exact absurd HA.out (by simp [filigreeref12_Right.l0])
        have H := HA.out
        clear HA
        simp only [filigreeref12_Right.l0] at H
        by_cases c12 : x3_2 < (l0_1.length : Int)
        · rw [if_pos c12] at H
          have c12b0 : decide (x3_2 < (l0_1.length : Int)) = true := decide_eq_true c12
          clear c12
          by_cases c13 : 0 ≤ x3_2
          rotate_left
          · rw [if_neg c13] at H; exact absurd H (by simp)
          rw [if_pos c13] at H
          have c13b0 : decide (0 ≤ x3_2) = true := decide_eq_true c13
          clear c13
          have HC14 := zMk H
          clear H
          have hcz15_0 : wr.cell? ⟨gb186, 0, none⟩ = some (.int .i64 a0_0) := (zKc BK186.out 0).trans rfl
          have hcz15_1 : wr.cell? ⟨gb186, 1, none⟩ = some (.slice A0_1 l0_1.length c0_1) := (zKc BK186.out 1).trans rfl
          have hfz15_0 := zKf BK186.out 0
          have hfz15_1 := zKf BK186.out 1
          have p187 : 0 ≤ (x3_2 : Int) := of_decide_eq_true (by assumption)
          have q187 : x3_2 < (l0_1.length : Int) := of_decide_eq_true (by assumption)
          obtain ⟨ad187, e187, hx187_0, hx187_1, hx187_2⟩ := at_T39 HR0_1.out x3_2 p187 q187
          cases e187
          replace hx187_0 := (HB.out.cell (World.block_lt_of_cell? w _ hx187_0)).trans hx187_0
          replace hx187_1 := (HB.out.cell (World.block_lt_of_cell? w _ hx187_1)).trans hx187_1
          replace hx187_2 := (HB.out.cell (World.block_lt_of_cell? w _ hx187_2)).trans hx187_2
          replace p187 := eq_true p187
          replace q187 := eq_true q187
          go_upto_region 9 with (first | ((with_reducible refine gate_dst (N := 4) rfl ?_); (try (refine gate_guard (by rfl) ?_; dsimp only)); refine box_event ?hg (N := 4) ?hd (cs := #[.int .i64 0, .int .i64 0, .int .i64 0]) (t := 39) ?hr ?_; (case hd => rfl); (case hg => rfl); (case hr => first | (go_simp; done)|(go_simp; rfl)|(go_simp; rw [show ∀ x : Int, IntKind.u32.wrap (IntKind.u8.wrap x) = x % 256 from fun x => (by show (x % 256) % 4294967296 = x % 256; omega)])); intro gb188 hg w16 hbox hb; have BK188 := zMk (hbox); have GW188 := zMk ((by rw [hg]; exact (zBs (by exact uT HB.out)) : w.heap.size ≤ gb188)); have GE188 := zMk ((by rw [hg]; exact (zBs (by exact uT HB.out)) : w.heap.size ≤ gb188)); have IGE188 := ownGe GE188.out; replace HB := zMk (zBt (by exact uT HB.out) hb); have NB186_188 := zMk ((by rw [hg]; exact Nat.ne_of_lt (blk_lt (g := gb186) (o := .cells #[.int .i64 a0_0, .slice (some ad187) l0_1.length c0_1] 24 (0, 0)) (by (with_reducible repeat (first |  refine zKn ?_ _|  refine zKd ?_|  refine zKa ?_ _)); exact BK186.out)) : gb186 ≠ gb188)); have NB188_186 := zMk ((by rw [hg]; exact Nat.ne_of_gt (blk_lt (g := gb186) (o := .cells #[.int .i64 a0_0, .slice (some ad187) l0_1.length c0_1] 24 (0, 0)) (by (with_reducible repeat (first |  refine zKn ?_ _|  refine zKd ?_|  refine zKa ?_ _)); exact BK186.out)) : gb188 ≠ gb186)); replace BK186 := zMk (zKb (g := gb186) (o := .cells #[.int .i64 a0_0, .slice (some ad187) l0_1.length c0_1] 24 (0, 0)) (by (with_reducible repeat (first |  refine zKn ?_ _|  refine zKd ?_|  refine zKa ?_ _)); exact BK186.out) hb); clear hb hbox hg; have hnb17 := NB188_186.out; have hnc17 := NB186_188.out; have hcz18_0 : w16.cell? ⟨gb188, 0, none⟩ = some (.int .i64 0) := (zKc BK188.out 0).trans rfl; have hcz18_1 : w16.cell? ⟨gb188, 1, none⟩ = some (.int .i64 0) := (zKc BK188.out 1).trans rfl; have hcz18_2 : w16.cell? ⟨gb188, 2, none⟩ = some (.int .i64 0) := (zKc BK188.out 2).trans rfl; have hfz18_0 := zKf BK188.out 0; have hfz18_1 := zKf BK188.out 1; have hfz18_2 := zKf BK188.out 2))
          (try simp only [Act.put, zSa, zSb, zSc])
          go_cut [50] (fun v50 wc => ∃ (kq : Nat) (x50_13 : Bool), v50 = .bool x50_13 ∧ Aside0 (filigreeref12_Right.j2 kq x3_2 x50_13 a0_0 l0_1 ((rd_T39 l0_1 x3_2).f0) ((rd_T39 l0_1 x3_2).f1) ((rd_T39 l0_1 x3_2).f2) = some r) ∧ Aside0 (kq ≤ k2) ∧ Aside0 (wc.heap[gb186]? = some (.cells #[.int .i64 a0_0, (.slice (some ad187) l0_1.length c0_1)] 24 (0, 0))) ∧ Aside0 (wc.heap[gb188]? = some (.cells #[.int .i64 ((rd_T39 l0_1 x3_2).f0), .int .i64 ((rd_T39 l0_1 x3_2).f1), .int .i64 ((rd_T39 l0_1 x3_2).f2)] 39 (0, 0))) ∧ Aside0 (Below w.heap.size w wc))
          case first =>
            have H := HC14.out
            clear HC14
            by_cases c19 : ((rd_T39 l0_1 x3_2).f0) < 0
            · rw [if_pos c19] at H
              have c19b0 : decide (((rd_T39 l0_1 x3_2).f0) < 0) = true := decide_eq_true c19
              clear c19
              (first | rw [c19b0] | (simp only [i64_w, i32_w]; rw [c19b0]) | rw [c19b1] | skip)
              have H' := zMk H
              clear H
              have hnb20 := NB188_186.out
              have hnc20 := NB186_188.out
              have hcz21_0 : w16.cell? ⟨gb188, 0, none⟩ = some (.int .i64 0) := (zKc BK188.out 0).trans rfl
              have hcz21_1 : w16.cell? ⟨gb188, 1, none⟩ = some (.int .i64 0) := (zKc BK188.out 1).trans rfl
              have hcz21_2 : w16.cell? ⟨gb188, 2, none⟩ = some (.int .i64 0) := (zKc BK188.out 2).trans rfl
              have hfz21_0 := zKf BK188.out 0
              have hfz21_1 := zKf BK188.out 1
              have hfz21_2 := zKf BK188.out 2
              go_wp2
              go_meet
              case rel => exact ⟨_, (true), (by first | rfl | (simp; done) | (simp [*]; done)), H', ⟨by have := HJ4.out; have := HK2.out; first | omega | exact Nat.le_refl _⟩, ⟨by (with_reducible repeat (first | refine zKn ?_ _ | refine zKd ?_ | refine zKa ?_ _)); refine blk_far ?_ NB186_188.out _; (with_reducible repeat (first | refine zKn ?_ _ | refine zKd ?_ | refine zKa ?_ _)); refine blk_far ?_ NB186_188.out _; (with_reducible repeat (first | refine zKn ?_ _ | refine zKd ?_ | refine zKa ?_ _)); refine blk_far ?_ NB186_188.out _; (with_reducible repeat (first | refine zKn ?_ _ | refine zKd ?_ | refine zKa ?_ _)); exact BK186.out⟩, ⟨by (with_reducible repeat (first | refine zKn ?_ _ | refine zKd ?_ | refine zKa ?_ _)); refine blk_put (cs := #[.int .i64 ((rd_T39 l0_1 x3_2).f0), .int .i64 ((rd_T39 l0_1 x3_2).f1), .int .i64 0]) ?_ 2 _ rfl; (with_reducible repeat (first | refine zKn ?_ _ | refine zKd ?_ | refine zKa ?_ _)); refine blk_put (cs := #[.int .i64 ((rd_T39 l0_1 x3_2).f0), .int .i64 0, .int .i64 0]) ?_ 1 _ rfl; (with_reducible repeat (first | refine zKn ?_ _ | refine zKd ?_ | refine zKa ?_ _)); refine blk_put (cs := #[.int .i64 0, .int .i64 0, .int .i64 0]) ?_ 0 _ rfl; (with_reducible repeat (first | refine zKn ?_ _ | refine zKd ?_ | refine zKa ?_ _)); exact BK188.out⟩, ⟨by exact uT HB.out⟩⟩
            · rw [if_neg c19] at H
              have c19b0 : decide (((rd_T39 l0_1 x3_2).f0) < 0) = false := decide_eq_false c19
              clear c19
              (first | rw [c19b0] | (simp only [i64_w, i32_w]; rw [c19b0]) | rw [c19b1] | skip)
              by_cases c22 : ((rd_T39 l0_1 x3_2).f0) ≥ a0_0
              · rw [if_pos c22] at H
                have c22b0 : decide (a0_0 ≤ ((rd_T39 l0_1 x3_2).f0)) = true := decide_eq_true c22
                clear c22
                have H' := zMk H
                clear H
                have hnb23 := NB188_186.out
                have hnc23 := NB186_188.out
                have hcz24_0 : w16.cell? ⟨gb188, 0, none⟩ = some (.int .i64 0) := (zKc BK188.out 0).trans rfl
                have hcz24_1 : w16.cell? ⟨gb188, 1, none⟩ = some (.int .i64 0) := (zKc BK188.out 1).trans rfl
                have hcz24_2 : w16.cell? ⟨gb188, 2, none⟩ = some (.int .i64 0) := (zKc BK188.out 2).trans rfl
                have hfz24_0 := zKf BK188.out 0
                have hfz24_1 := zKf BK188.out 1
                have hfz24_2 := zKf BK188.out 2
                have hcz25_0 : w16.cell? ⟨gb186, 0, none⟩ = some (.int .i64 a0_0) := (zKc BK186.out 0).trans rfl
                have hcz25_1 : w16.cell? ⟨gb186, 1, none⟩ = some (.slice (some ad187) l0_1.length c0_1) := (zKc BK186.out 1).trans rfl
                have hfz25_0 := zKf BK186.out 0
                have hfz25_1 := zKf BK186.out 1
                go_wp2
                go_meet
                case rel => exact ⟨_, (true), (by first | rfl | (simp; done) | (simp [*]; done)), H', ⟨by have := HJ4.out; have := HK2.out; first | omega | exact Nat.le_refl _⟩, ⟨by (with_reducible repeat (first | refine zKn ?_ _ | refine zKd ?_ | refine zKa ?_ _)); refine blk_far ?_ NB186_188.out _; (with_reducible repeat (first | refine zKn ?_ _ | refine zKd ?_ | refine zKa ?_ _)); refine blk_far ?_ NB186_188.out _; (with_reducible repeat (first | refine zKn ?_ _ | refine zKd ?_ | refine zKa ?_ _)); refine blk_far ?_ NB186_188.out _; (with_reducible repeat (first | refine zKn ?_ _ | refine zKd ?_ | refine zKa ?_ _)); exact BK186.out⟩, ⟨by (with_reducible repeat (first | refine zKn ?_ _ | refine zKd ?_ | refine zKa ?_ _)); refine blk_put (cs := #[.int .i64 ((rd_T39 l0_1 x3_2).f0), .int .i64 ((rd_T39 l0_1 x3_2).f1), .int .i64 0]) ?_ 2 _ rfl; (with_reducible repeat (first | refine zKn ?_ _ | refine zKd ?_ | refine zKa ?_ _)); refine blk_put (cs := #[.int .i64 ((rd_T39 l0_1 x3_2).f0), .int .i64 0, .int .i64 0]) ?_ 1 _ rfl; (with_reducible repeat (first | refine zKn ?_ _ | refine zKd ?_ | refine zKa ?_ _)); refine blk_put (cs := #[.int .i64 0, .int .i64 0, .int .i64 0]) ?_ 0 _ rfl; (with_reducible repeat (first | refine zKn ?_ _ | refine zKd ?_ | refine zKa ?_ _)); exact BK188.out⟩, ⟨by exact uT HB.out⟩⟩
              · rw [if_neg c22] at H
                have c22b0 : decide (a0_0 ≤ ((rd_T39 l0_1 x3_2).f0)) = false := decide_eq_false c22
                clear c22
                by_cases c26 : ((rd_T39 l0_1 x3_2).f1) < 0
                · rw [if_pos c26] at H
                  have c26b0 : decide (((rd_T39 l0_1 x3_2).f1) < 0) = true := decide_eq_true c26
                  clear c26
                  have H' := zMk H
                  clear H
                  have hnb27 := NB188_186.out
                  have hnc27 := NB186_188.out
                  have hcz28_0 : w16.cell? ⟨gb188, 0, none⟩ = some (.int .i64 0) := (zKc BK188.out 0).trans rfl
                  have hcz28_1 : w16.cell? ⟨gb188, 1, none⟩ = some (.int .i64 0) := (zKc BK188.out 1).trans rfl
                  have hcz28_2 : w16.cell? ⟨gb188, 2, none⟩ = some (.int .i64 0) := (zKc BK188.out 2).trans rfl
                  have hfz28_0 := zKf BK188.out 0
                  have hfz28_1 := zKf BK188.out 1
                  have hfz28_2 := zKf BK188.out 2
                  have hcz29_0 : w16.cell? ⟨gb186, 0, none⟩ = some (.int .i64 a0_0) := (zKc BK186.out 0).trans rfl
                  have hcz29_1 : w16.cell? ⟨gb186, 1, none⟩ = some (.slice (some ad187) l0_1.length c0_1) := (zKc BK186.out 1).trans rfl
                  have hfz29_0 := zKf BK186.out 0
                  have hfz29_1 := zKf BK186.out 1
                  go_wp2
                  go_meet
                  case rel => exact ⟨_, (true), (by first | rfl | (simp; done) | (simp [*]; done)), H', ⟨by have := HJ4.out; have := HK2.out; first | omega | exact Nat.le_refl _⟩, ⟨by (with_reducible repeat (first | refine zKn ?_ _ | refine zKd ?_ | refine zKa ?_ _)); refine blk_far ?_ NB186_188.out _; (with_reducible repeat (first | refine zKn ?_ _ | refine zKd ?_ | refine zKa ?_ _)); refine blk_far ?_ NB186_188.out _; (with_reducible repeat (first | refine zKn ?_ _ | refine zKd ?_ | refine zKa ?_ _)); refine blk_far ?_ NB186_188.out _; (with_reducible repeat (first | refine zKn ?_ _ | refine zKd ?_ | refine zKa ?_ _)); exact BK186.out⟩, ⟨by (with_reducible repeat (first | refine zKn ?_ _ | refine zKd ?_ | refine zKa ?_ _)); refine blk_put (cs := #[.int .i64 ((rd_T39 l0_1 x3_2).f0), .int .i64 ((rd_T39 l0_1 x3_2).f1), .int .i64 0]) ?_ 2 _ rfl; (with_reducible repeat (first | refine zKn ?_ _ | refine zKd ?_ | refine zKa ?_ _)); refine blk_put (cs := #[.int .i64 ((rd_T39 l0_1 x3_2).f0), .int .i64 0, .int .i64 0]) ?_ 1 _ rfl; (with_reducible repeat (first | refine zKn ?_ _ | refine zKd ?_ | refine zKa ?_ _)); refine blk_put (cs := #[.int .i64 0, .int .i64 0, .int .i64 0]) ?_ 0 _ rfl; (with_reducible repeat (first | refine zKn ?_ _ | refine zKd ?_ | refine zKa ?_ _)); exact BK188.out⟩, ⟨by exact uT HB.out⟩⟩
                · rw [if_neg c26] at H
                  have c26b0 : decide (((rd_T39 l0_1 x3_2).f1) < 0) = false := decide_eq_false c26
                  clear c26
                  have H' := zMk H
                  clear H
                  have hnb30 := NB188_186.out
                  have hnc30 := NB186_188.out
                  have hcz31_0 : w16.cell? ⟨gb188, 0, none⟩ = some (.int .i64 0) := (zKc BK188.out 0).trans rfl
                  have hcz31_1 : w16.cell? ⟨gb188, 1, none⟩ = some (.int .i64 0) := (zKc BK188.out 1).trans rfl
                  have hcz31_2 : w16.cell? ⟨gb188, 2, none⟩ = some (.int .i64 0) := (zKc BK188.out 2).trans rfl
                  have hfz31_0 := zKf BK188.out 0
                  have hfz31_1 := zKf BK188.out 1
                  have hfz31_2 := zKf BK188.out 2
                  have hcz32_0 : w16.cell? ⟨gb186, 0, none⟩ = some (.int .i64 a0_0) := (zKc BK186.out 0).trans rfl
                  have hcz32_1 : w16.cell? ⟨gb186, 1, none⟩ = some (.slice (some ad187) l0_1.length c0_1) := (zKc BK186.out 1).trans rfl
                  have hfz32_0 := zKf BK186.out 0
                  have hfz32_1 := zKf BK186.out 1
                  go_wp2
                  go_meet
                  case rel => exact ⟨_, (decide (((rd_T39 l0_1 x3_2).f1) ≥ a0_0)), (by first | rfl | (simp; done) | (simp [*]; done)), H', ⟨by have := HJ4.out; have := HK2.out; first | omega | exact Nat.le_refl _⟩, ⟨by (with_reducible repeat (first | refine zKn ?_ _ | refine zKd ?_ | refine zKa ?_ _)); refine blk_far ?_ NB186_188.out _; (with_reducible repeat (first | refine zKn ?_ _ | refine zKd ?_ | refine zKa ?_ _)); refine blk_far ?_ NB186_188.out _; (with_reducible repeat (first | refine zKn ?_ _ | refine zKd ?_ | refine zKa ?_ _)); refine blk_far ?_ NB186_188.out _; (with_reducible repeat (first | refine zKn ?_ _ | refine zKd ?_ | refine zKa ?_ _)); exact BK186.out⟩, ⟨by (with_reducible repeat (first | refine zKn ?_ _ | refine zKd ?_ | refine zKa ?_ _)); refine blk_put (cs := #[.int .i64 ((rd_T39 l0_1 x3_2).f0), .int .i64 ((rd_T39 l0_1 x3_2).f1), .int .i64 0]) ?_ 2 _ rfl; (with_reducible repeat (first | refine zKn ?_ _ | refine zKd ?_ | refine zKa ?_ _)); refine blk_put (cs := #[.int .i64 ((rd_T39 l0_1 x3_2).f0), .int .i64 0, .int .i64 0]) ?_ 1 _ rfl; (with_reducible repeat (first | refine zKn ?_ _ | refine zKd ?_ | refine zKa ?_ _)); refine blk_put (cs := #[.int .i64 0, .int .i64 0, .int .i64 0]) ?_ 0 _ rfl; (with_reducible repeat (first | refine zKn ?_ _ | refine zKd ?_ | refine zKa ?_ _)); exact BK188.out⟩, ⟨by exact uT HB.out⟩⟩
          case rest =>
            clear HC14
            obtain ⟨kq, x50_13, rfl, HA, HJ13, BK186, BK188, HB⟩ := hcut
            rcases kq with _ | kj13
            · exact absurd HA.out (by simp [filigreeref12_Right.j2])
            have H := HA.out
            clear HA
            simp only [filigreeref12_Right.j2] at H
            by_cases c33 : x50_13 = true
            · subst c33
              replace H : (some 5) = some r := by rw [if_pos rfl] at H; exact H
              obtain rfl := zOi H
              go_wp2
              go_ret
              exact ⟨by first | rfl | (simp [errW_none, errW_some] <;> rfl) | (simp [*, errW_none, errW_some] <;> rfl), by exact uT HB.out⟩
            · replace c33 := Bool.eq_false_iff.mpr c33
              subst c33
              replace H : (if ((rd_T39 l0_1 x3_2).f2) < 0 then (some 10) else (if ((rd_T39 l0_1 x3_2).f2) ≥ 2147483648 then (some 8) else (filigreeref12_Right.l0 kj13 (wrap64 (x3_2 + 1)) a0_0 l0_1))) = some r := by rw [if_neg (show ¬ (false = true) by decide)] at H; exact H
              by_cases c34 : ((rd_T39 l0_1 x3_2).f2) < 0
              · rw [if_pos c34] at H
                have c34b0 : decide (((rd_T39 l0_1 x3_2).f2) < 0) = true := decide_eq_true c34
                clear c34
                obtain rfl := zOi H
                have hnb35 := NB188_186.out
                have hnc35 := NB186_188.out
                have hcz36_0 : wc.cell? ⟨gb188, 0, none⟩ = some (.int .i64 ((rd_T39 l0_1 x3_2).f0)) := (zKc BK188.out 0).trans rfl
                have hcz36_1 : wc.cell? ⟨gb188, 1, none⟩ = some (.int .i64 ((rd_T39 l0_1 x3_2).f1)) := (zKc BK188.out 1).trans rfl
                have hcz36_2 : wc.cell? ⟨gb188, 2, none⟩ = some (.int .i64 ((rd_T39 l0_1 x3_2).f2)) := (zKc BK188.out 2).trans rfl
                have hfz36_0 := zKf BK188.out 0
                have hfz36_1 := zKf BK188.out 1
                have hfz36_2 := zKf BK188.out 2
                go_wp2
                go_ret
                exact ⟨by first | rfl | (simp [errW_none, errW_some] <;> rfl) | (simp [*, errW_none, errW_some] <;> rfl), by exact uT HB.out⟩
              · rw [if_neg c34] at H
                have c34b0 : decide (((rd_T39 l0_1 x3_2).f2) < 0) = false := decide_eq_false c34
                clear c34
                by_cases c37 : ((rd_T39 l0_1 x3_2).f2) ≥ 2147483648
                · rw [if_pos c37] at H
                  have c37b0 : decide (2147483648 ≤ ((rd_T39 l0_1 x3_2).f2)) = true := decide_eq_true c37
                  clear c37
                  obtain rfl := zOi H
                  have hnb38 := NB188_186.out
                  have hnc38 := NB186_188.out
                  have hcz39_0 : wc.cell? ⟨gb188, 0, none⟩ = some (.int .i64 ((rd_T39 l0_1 x3_2).f0)) := (zKc BK188.out 0).trans rfl
                  have hcz39_1 : wc.cell? ⟨gb188, 1, none⟩ = some (.int .i64 ((rd_T39 l0_1 x3_2).f1)) := (zKc BK188.out 1).trans rfl
                  have hcz39_2 : wc.cell? ⟨gb188, 2, none⟩ = some (.int .i64 ((rd_T39 l0_1 x3_2).f2)) := (zKc BK188.out 2).trans rfl
                  have hfz39_0 := zKf BK188.out 0
                  have hfz39_1 := zKf BK188.out 1
                  have hfz39_2 := zKf BK188.out 2
                  go_wp2
                  go_ret
                  exact ⟨by first | rfl | (simp [errW_none, errW_some] <;> rfl) | (simp [*, errW_none, errW_some] <;> rfl), by exact uT HB.out⟩
                · rw [if_neg c37] at H
                  have c37b0 : decide (2147483648 ≤ ((rd_T39 l0_1 x3_2).f2)) = false := decide_eq_false c37
                  clear c37
                  have H' := zMk H
                  clear H
                  have hnb40 := NB188_186.out
                  have hnc40 := NB186_188.out
                  have hcz41_0 : wc.cell? ⟨gb188, 0, none⟩ = some (.int .i64 ((rd_T39 l0_1 x3_2).f0)) := (zKc BK188.out 0).trans rfl
                  have hcz41_1 : wc.cell? ⟨gb188, 1, none⟩ = some (.int .i64 ((rd_T39 l0_1 x3_2).f1)) := (zKc BK188.out 1).trans rfl
                  have hcz41_2 : wc.cell? ⟨gb188, 2, none⟩ = some (.int .i64 ((rd_T39 l0_1 x3_2).f2)) := (zKc BK188.out 2).trans rfl
                  have hfz41_0 := zKf BK188.out 0
                  have hfz41_1 := zKf BK188.out 1
                  have hfz41_2 := zKf BK188.out 2
                  go_wp2
                  go_roundg kj13
                  case measure => have := HJ4.out; have := HK2.out; have := HJ13.out; omega
                  case rel => exact ⟨(wrap64 (x3_2 + 1)), (by first | rfl | (simp; done) | (simp [*]; done)), H', ⟨by have := HJ4.out; have := HK2.out; have := HJ13.out; omega⟩, ⟨by (with_reducible repeat (first | refine zKn ?_ _ | refine zKd ?_ | refine zKa ?_ _)); exact BK186.out⟩, ⟨by exact uT HB.out⟩⟩
        · rw [if_neg c12] at H
          have c12b0 : decide (x3_2 < (l0_1.length : Int)) = false := decide_eq_false c12
          clear c12
          obtain rfl := zOi H
          have hcz42_0 : wr.cell? ⟨gb186, 0, none⟩ = some (.int .i64 a0_0) := (zKc BK186.out 0).trans rfl
          have hcz42_1 : wr.cell? ⟨gb186, 1, none⟩ = some (.slice A0_1 l0_1.length c0_1) := (zKc BK186.out 1).trans rfl
          have hfz42_0 := zKf BK186.out 0
          have hfz42_1 := zKf BK186.out 1
          go_wp2
          go_ret
          exact ⟨by first | rfl | (simp [errW_none, errW_some] <;> rfl) | (simp [*, errW_none, errW_some] <;> rfl), by exact uT HB.out⟩


def bits_Mul64.f (a0 : Int) (a1 : Int) : Option (Int × Int) := some (IntKind.u64.wrap ((IntKind.u64.wrap ((IntKind.u64.wrap ((a0 / 4294967296) * (a1 / 4294967296))) + ((IntKind.u64.wrap ((IntKind.u64.wrap ((a0 / 4294967296) * (Go.bits .and .u64 a1 4294967295))) + ((IntKind.u64.wrap ((Go.bits .and .u64 a0 4294967295) * (Go.bits .and .u64 a1 4294967295))) / 4294967296))) / 4294967296))) + ((IntKind.u64.wrap ((Go.bits .and .u64 (IntKind.u64.wrap ((IntKind.u64.wrap ((a0 / 4294967296) * (Go.bits .and .u64 a1 4294967295))) + ((IntKind.u64.wrap ((Go.bits .and .u64 a0 4294967295) * (Go.bits .and .u64 a1 4294967295))) / 4294967296))) 4294967295) + (IntKind.u64.wrap ((Go.bits .and .u64 a0 4294967295) * (a1 / 4294967296))))) / 4294967296)), IntKind.u64.wrap (a0 * a1))
theorem bits_Mul64.calls (a0 : Int) (a1 : Int) (r1 : Int) (r2 : Int) (w : World) (h : bits_Mul64.f a0 a1 = some (r1, r2)) :
    Calls Try.prog 33 #[.int .u64 a0, .int .u64 a1] w fun e w' => e = .returned (.tuple #[.int .u64 r1, .int .u64 r2]) ∧ Drawn0 w w' := by
  have H : (some (IntKind.u64.wrap ((IntKind.u64.wrap ((IntKind.u64.wrap ((a0 / 4294967296) * (a1 / 4294967296))) + ((IntKind.u64.wrap ((IntKind.u64.wrap ((a0 / 4294967296) * (Go.bits .and .u64 a1 4294967295))) + ((IntKind.u64.wrap ((Go.bits .and .u64 a0 4294967295) * (Go.bits .and .u64 a1 4294967295))) / 4294967296))) / 4294967296))) + ((IntKind.u64.wrap ((Go.bits .and .u64 (IntKind.u64.wrap ((IntKind.u64.wrap ((a0 / 4294967296) * (Go.bits .and .u64 a1 4294967295))) + ((IntKind.u64.wrap ((Go.bits .and .u64 a0 4294967295) * (Go.bits .and .u64 a1 4294967295))) / 4294967296))) 4294967295) + (IntKind.u64.wrap ((Go.bits .and .u64 a0 4294967295) * (a1 / 4294967296))))) / 4294967296)), IntKind.u64.wrap (a0 * a1))) = some (r1, r2) := h
  clear h
  simp only [Option.some.injEq, Prod.mk.injEq] at H
  obtain ⟨rfl, rfl⟩ := H
  go_enter Try.func33, Try.ntmps33
  go_wp2
  go_ret2
  exact ⟨by first | rfl | (simp; done) | (simp [*]; done), by repeat (first | exact Drawn0.refl _ | apply Drawn0.step)⟩


def bits_Mul.f (a0 : Int) (a1 : Int) : Option (Int × Int) := (bits_Mul64.f a0 a1).bind fun bt104 => (some (bt104.1, bt104.2))
theorem bits_Mul.calls (a0 : Int) (a1 : Int) (r1 : Int) (r2 : Int) (w : World) (h : bits_Mul.f a0 a1 = some (r1, r2)) :
    Calls Try.prog 28 #[.int .u64 a0, .int .u64 a1] w fun e w' => e = .returned (.tuple #[.int .u64 r1, .int .u64 r2]) ∧ Drawn0 w w' := by
  have H : ((bits_Mul64.f a0 a1).bind fun bt104 => (some (bt104.1, bt104.2))) = some (r1, r2) := h
  clear h
  replace H := bnd H
  obtain ⟨⟨t104, t105⟩, A30, H⟩ := H
  replace H : (some (t104, t105)) = some (r1, r2) := H
  have A3 := zMk A30
  clear A30
  simp only [Option.some.injEq, Prod.mk.injEq] at H
  obtain ⟨rfl, rfl⟩ := H
  go_enter Try.func28, Try.ntmps28
  go_wp2_with (first | ((with_reducible refine gate_callee (f := 33) rfl ?_); refine goesL_ (some 25) rfl rfl Try.func33 (by kernel_rfl) rfl #[.int .u64 a0, .int .u64 a1] rfl (by (try simp only [zMa, zMc, zMn]); first | done | rfl | (simp only [zLd, zLt]; rfl)) ?_; (with_reducible refine (bits_Mul64.calls a0 a1 t104 t105 _ A3.out).mono ?_); rintro e w' ⟨rfl, ⟨nd, rfl⟩⟩; refine ⟨_, rfl, ?_⟩))
  go_ret2
  exact ⟨by first | rfl | (simp; done) | (simp [*]; done), by repeat (first | exact Drawn0.refl _ | apply Drawn0.step)⟩


theorem slices_Repeat_int64_int64_mul_one (n : Nat) (hn : n ≤ 1099511627776) : bits_Mul.f 1 (n : Int) = some (0, (n : Int)) := by
  have hb : Go.bits .and .u64 (n : Int) 4294967295 = (n : Int) % 4294967296 := bits_mask .u64 64 (by decide) (by intro x h0 h1; show x % 18446744073709551616 = x; omega) 32 (by decide) _ (by omega) (by omega)
  have h1 : Go.bits .and .u64 (1 : Int) 4294967295 = 1 := by decide +kernel
  have h0 : Go.bits .and .u64 (0 : Int) 4294967295 = 0 := by decide +kernel
  have z : (1 : Int) / 4294967296 = 0 := by decide
  have w0 : IntKind.u64.wrap 0 = 0 := by decide
  have w1 : IntKind.u64.wrap (1 * ((n : Int) % 4294967296)) = (n : Int) % 4294967296 := by
    show (1 * ((n : Int) % 4294967296)) % 18446744073709551616 = _
    omega
  have w2 : (n : Int) % 4294967296 / 4294967296 = 0 := by omega
  have w3 : IntKind.u64.wrap (1 * ((n : Int) / 4294967296)) = (n : Int) / 4294967296 := by
    show (1 * ((n : Int) / 4294967296)) % 18446744073709551616 = _
    omega
  have w4 : IntKind.u64.wrap ((n : Int) / 4294967296) = (n : Int) / 4294967296 := by
    show ((n : Int) / 4294967296) % 18446744073709551616 = _
    omega
  have w5 : (n : Int) / 4294967296 / 4294967296 = 0 := by omega
  have w6 : IntKind.u64.wrap (1 * (n : Int)) = n := by
    show (1 * (n : Int)) % 18446744073709551616 = _
    omega
  have z0 : (0 : Int) / 4294967296 = 0 := by decide
  unfold bits_Mul.f bits_Mul64.f
  simp only [hb, h1, h0, z, z0, w0, w1, w2, w3, w4, w5, w6, Int.zero_mul, Int.zero_add, Int.add_zero, zOb]
def slices_Repeat_int64_int64_Fill (W : World) (e g m n : Nat) (v : Int) : Prop := ∃ cur : Array Value, W.heap[g]? = some (.cells cur e (0, 0)) ∧ cur.size = n ∧ ∀ j, j < m → cur[j]? = some (.int .i64 v)
theorem slices_Repeat_int64_int64_Fill.cell {W : World} {e g m n : Nat} {v : Int} (h : slices_Repeat_int64_int64_Fill W e g m n v) (j : Nat) (hj : j < m) : W.cell? ((⟨g, 0, none⟩ : Addr).add j) = some (.int .i64 v) := by
  obtain ⟨cur, hg, _, hc⟩ := h
  rw [add_plain]
  exact (zKc hg j).trans (hc j hj)
theorem slices_Repeat_int64_int64_Fill.copy {W : World} {t e ty g m n c k sc : Nat} {v : Int} {P : Program} (h : slices_Repeat_int64_int64_Fill W e g m n v) (hu : P.underlying t = some (.slice e)) (hs : (P.info? e).map (·.size) = some 1) (a : Addr) (dc : Nat) (hm : m ≤ n)
    (hsrc : ∀ j, j < c → W.cell? (a.add j) = some (.int .i64 v)) (hk : c = Nat.min k (n - m)) :
    ∃ W2, (Builtin.copy_ #[t, t] ty #[.slice (some ⟨g, m, none⟩) (n - m) dc, .slice (some a) k sc]).run P W = .ok (.int .i64 (c : Int)) W2 ∧ slices_Repeat_int64_int64_Fill W2 e g (m + c) n v ∧ (∀ B w0, B ≤ g → Below B w0 W → Below B w0 W2) := by
  obtain ⟨cur, hg, hsz, hc⟩ := h
  have hc2 : c ≤ n - m := by rw [hk]; exact Nat.min_le_right _ _
  have := run_copy_row (P := P) W t t ty e g m (n - m) dc a k sc cur e (List.replicate c (.int .i64 v)) hu hs hg (by rw [List.length_replicate, hk]) (fun j x hx => by
    have hj : j < c := by
      rcases Nat.lt_or_ge j c with h | h
      · exact h
      · rw [List.getElem?_eq_none (by simpa using h)] at hx; cases hx
    rw [hsrc j hj]
    rw [List.getElem?_replicate, if_pos hj] at hx
    exact hx) (by rw [List.length_replicate, hsz]; omega) (by intro x hx; rw [List.mem_replicate] at hx; rw [hx.2]; rfl)
  rw [List.length_replicate] at this
  refine ⟨_, this, ⟨_, setRow_heap W g cur _ e (0, 0) hg, ?_, ?_⟩, fun B w0 hB hb => below_setRow hb hB _⟩
  · simp [hsz]; omega
  · intro j hj
    rw [List.getElem?_toArray]
    rcases Nat.lt_or_ge j m with h1 | h1
    · rw [List.append_assoc, List.getElem?_append_left (by simp; omega), List.getElem?_take_of_lt h1, Array.getElem?_toList]
      exact hc j h1
    · rw [List.append_assoc, List.getElem?_append_right (by simp; omega), List.getElem?_append_left (by simp; omega), List.getElem?_replicate, if_pos (by simp; omega)]
theorem slices_Repeat_int64_int64_Fill.row {W : World} {e g n base : Nat} {v : Int} (h : slices_Repeat_int64_int64_Fill W e g n n v) (hb : base ≤ g) (hn : n ≤ 1099511627776) : Kd.R (Kd.int .i64) e W base (fun _ => True) (.slice (some ⟨g, 0, none⟩) n n) (List.replicate n v) := by
  obtain ⟨cur, hg, hsz, hc⟩ := h
  refine Kd.R_of_own ?_ (fun _ _ => trivial)
  rw [List.length_replicate]
  refine ⟨by simp [encs], .inr ⟨g, n, cur, rfl, hb, hg, Nat.le_refl _, by unfold maxLen; omega, by omega, ?_⟩⟩
  apply List.ext_getElem?
  intro j
  rcases Nat.lt_or_ge j n with h1 | h1
  · rw [List.getElem?_take_of_lt (by omega), Array.getElem?_toList, hc j h1]
    simp [encs, h1]
  · rw [List.getElem?_eq_none (by simp; omega), List.getElem?_eq_none (by simp [encs]; omega)]
def slices_Repeat_int64_int64.f (l0 : List Int) (a1 : Int) : Option (List Int) := if 0 ≤ a1 then (if a1 ≤ 1099511627776 then (if l0.length = 1 then some (List.replicate a1.toNat (rd l0 0)) else none) else none) else none
theorem slices_Repeat_int64_int64.calls (A0 : Option Addr) (c0 : Nat) (l0 : List Int) (a1 : Int) (r : List Int) (w : World) (hr0 : Kd.C (Kd.int .i64) w A0 l0.length l0) (hc0 : l0.length ≤ c0) (h : slices_Repeat_int64_int64.f l0 a1 = some r) :
    Calls Try.prog 18 #[.slice A0 l0.length c0, .int .i64 a1] w fun e w' => ∃ v0_ : Value, e = .returned (v0_) ∧ Kd.R (Kd.int .i64) 2 w' w.heap.size (fun _ => True) v0_ r ∧ Below w.heap.size w w' := by
  unfold slices_Repeat_int64_int64.f at h
  by_cases h1 : 0 ≤ a1
  rotate_left
  · rw [if_neg h1] at h; exact absurd h (by simp)
  rw [if_pos h1] at h
  by_cases h2 : a1 ≤ 1099511627776
  rotate_left
  · rw [if_neg h2] at h; exact absurd h (by simp)
  rw [if_pos h2] at h
  by_cases h3 : l0.length = 1
  rotate_left
  · rw [if_neg h3] at h; exact absurd h (by simp)
  rw [if_pos h3] at h
  obtain rfl := zOi h
  obtain ⟨n, rfl⟩ : ∃ n : Nat, (n : Int) = a1 := ⟨a1.toNat, by omega⟩
  obtain ⟨v, rfl⟩ : ∃ v, l0 = [v] := by
    match l0, h3 with
    | [v], _ => exact ⟨v, rfl⟩
  obtain ⟨ad, rfl, hsrc⟩ := zAi hr0 0 (by omega) (by simp)
  have hrd : rd [v] 0 = v := rfl
  rw [hrd] at hsrc ⊢
  have MC := zMk (fun W => bits_Mul.calls 1 (n : Int) 0 (n : Int) W (slices_Repeat_int64_int64_mul_one n (by omega)))
  have hlen : (([v] : List Int).length : Int) = 1 := rfl
  have HC := zMk hc0
  have HN := zMk (show n ≤ 1099511627776 by omega)
  have HS := zMk hsrc
  obtain ⟨N, hN⟩ : ∃ N : Int, (n : Int) = N := ⟨_, rfl⟩
  have HNN := zMk hN
  have q1 : IntKind.u64.wrap N = N := by show N % 18446744073709551616 = N; omega
  have q2 : wrap64 N = N := by unfold wrap64; omega
  have p1 : decide (N < 0) = false := decide_eq_false (by omega)
  have p2 : decide (N > 9223372036854775807) = false := decide_eq_false (by omega)
  rw [hN] at MC ⊢
  clear hr0 h h1 h2 h3 hN hrd hc0 hsrc
  go_enter Try.func18, Try.ntmps18
  go_upto_region 6 with (go_at_call 28; refine (MC.out _).mono ?_; rintro e w9 ⟨rfl, hd9⟩)
  have hmk : ∀ W : World, (Instr.makeSlice 30 (.int .i64 N) (.int .i64 N)).run Try.prog W = .ok (.slice (some ⟨W.heap.size, 0, none⟩) n n) (W.alloc (.cells (madeCells #[.int .i64 0] n) 2)) := by
    rw [← HNN.out]
    exact run_make_row' 30 2 (.int .i64 0) 8 Try.underlying30 info2 rfl .i64 .i64 n (by have := HN.out; omega) (by have := HN.out; omega)
  have hB9 := hd9.below
  have HS9 := zMk (pw_cell_below hB9 HS.out)
  have HB9 := zMk hB9
  clear hB9 hd9 HS MC
  go_upto_region 7 with (fail)
  have F0 : slices_Repeat_int64_int64_Fill (w9.alloc (.cells (madeCells #[.int .i64 0] n) 2)) 2 w9.heap.size 0 n v := ⟨_, heap_alloc_new w9 _, by simp [madeCells], fun j hj => absurd hj (by omega)⟩
  have B1 := zBa HB9.out (.cells (madeCells #[.int .i64 0] n) 2)
  have GB := zMk HB9.out.size
  have S1 : (w9.alloc (.cells (madeCells #[.int .i64 0] n) 2)).cell? (ad.add (0 : Int).toNat) = some (.int .i64 v) := (World.cell?_alloc_lt _ _ _ (World.block_lt_of_cell? _ _ HS9.out)).trans HS9.out
  clear HS9 hmk HB9
  generalize w9.alloc (.cells (madeCells #[.int .i64 0] n) 2) = w1 at F0 B1 S1 ⊢
  generalize w9.heap.size = g at F0 GB ⊢
  obtain ⟨w2, hcp, F1, HBB⟩ := F0.copy (P := Try.prog) (t := 30) (ty := 3) (k := 1) (sc := c0) (c := Nat.min 1 (n - 0)) Try.underlying30 rfl ad n (by omega) (fun j hj => by
    have : j = 0 := by have : Nat.min 1 (n - 0) ≤ 1 := Nat.min_le_left _ _; omega
    subst this; exact S1) rfl
  have HB2 := zMk (HBB _ _ GB.out B1)
  simp only [Nat.sub_zero, Nat.zero_add] at hcp F1
  have hm1 : Nat.min 1 n ≤ n ∧ (0 < n → 0 < Nat.min 1 n) := by simp only [Nat.min_def]; split <;> omega
  generalize Nat.min 1 n = m0 at hcp F1 hm1
  have FF := zMk F1
  have HM1 := zMk hm1
  clear F0 B1 S1 F1 HBB hm1
  go_upto_region 8 with (fail)
  clear hcp
  go_loopg [8] n (fun kq v8 w' => ∃ (m : Nat), v8 = .int .i64 m ∧ Aside0 (m ≤ n ∧ n ≤ m + kq ∧ (0 < n → 0 < m)) ∧ Aside0 (slices_Repeat_int64_int64_Fill w' 2 g m n v) ∧ Aside0 (Below w.heap.size w w'))
  case atStart => exact ⟨m0, rfl, ⟨by have := HM1.out; omega⟩, FF, HB2⟩
  clear FF HB2 HM1
  obtain ⟨m, rfl, HM, FF, HB2⟩ := hrel
  obtain ⟨M, hM⟩ : ∃ M : Int, (m : Int) = M := ⟨_, rfl⟩
  by_cases c1 : m < n
  · rcases gk with _ | k1
    · have := HM.out; omega
    obtain ⟨c, hc⟩ : ∃ c, c = Nat.min m (n - m) := ⟨_, rfl⟩
    have hcc : 0 < c ∧ m + c ≤ n := by have := HM.out; rw [hc]; simp only [Nat.min_def]; split <;> omega
    have F5 : slices_Repeat_int64_int64_Fill wr.drew 2 g m n v := FF.out
    obtain ⟨w6, hcp, F6, HBB⟩ := F5.copy (P := Try.prog) (t := 30) (ty := 3) (k := m) (sc := n) (c := c) Try.underlying30 rfl ⟨g, 0, none⟩ (n - m) (by omega) (fun j hj => F5.cell j (by have h_ : c ≤ m := (by rw [hc]; exact Nat.min_le_left _ _); omega)) hc
    have HB5 := zMk (HBB _ _ GB.out (zBd HB2.out))
    have F6 := zMk F6
    have hcut1 : ∀ W : World, (Instr.slice 30 (.slice (some ⟨g, 0, none⟩) n n) (some (.int .i64 M)) none none).run Try.prog W = .ok (.slice (some ⟨g, m, none⟩) (n - m) (n - m)) W := by
      intro W
      rw [← hM, cut_from 30 2 .i64 (P := Try.prog) Try.underlying30 rfl 1 rfl (some ⟨g, 0, none⟩) n n (m : Int) (by omega) (by omega) W]
      rw [if_neg (by simp; omega)]
      simp [add_plain]
    have hcut2 : ∀ W : World, (Instr.slice 30 (.slice (some ⟨g, 0, none⟩) n n) none (some (.int .i64 M)) none).run Try.prog W = .ok (.slice (some ⟨g, 0, none⟩) m n) W := by
      intro W
      rw [← hM]
      exact cut_to 30 2 .i64 (P := Try.prog) Try.underlying30 rfl (some ⟨g, 0, none⟩) n n (m : Int) (by omega) (by omega) (Nat.le_refl _) W
    obtain ⟨K2, hK2⟩ : ∃ K2 : Int, ((m + c : Nat) : Int) = K2 := ⟨_, rfl⟩
    obtain ⟨CC, hCC⟩ : ∃ CC : Int, (c : Int) = CC := ⟨_, rfl⟩
    have q3 : wrap64 (M + CC) = K2 := by have := HN.out; unfold wrap64; omega
    have p3 : decide (M < (n : Int)) = true := decide_eq_true (by omega)
    rw [hCC] at hcp
    have C1 := zMk (And.intro c1 (And.intro hcc (And.intro hM hK2)))
    rw [hM]
    clear c1 hcc hc hM hK2 hCC F5 FF HB2 HBB
    go_upto_region 9 with (fail)
    refine start_ (n := 10) (S := fun w' => True) (ds := []) #[false, false, false, false, false, false, false, false, false, false] (by kernel_rfl) rfl rfl trivial (fun hHeld => ?_)
    generalize wr.drew = w5 at hcp hHeld ⊢
    refine pure_ (i := 0) (N := some 38) (v := ?_) (a' := ?_) #[true, false, false, false, false, false, false, false, false, false] rfl rfl (by kernel_rfl) (fun _ _ _ h => h) (Or.inl ⟨by rfl, ?_⟩) ?_ ?_
    rotate_left
    · intro w'
      go_simp
      with_reducible rfl
    rotate_left
    · simp only [Act.put, zSa, zSb, zSc, i64_w, i32_w]
      rfl
    refine pure_ (i := 1) (N := some 39) (v := ?_) (a' := ?_) #[true, true, false, false, false, false, false, false, false, false] rfl rfl (by kernel_rfl) (fun _ _ _ h => h) (Or.inl ⟨by rfl, ?_⟩) ?_ ?_
    rotate_left
    · intro w'
      go_simp
      with_reducible rfl
    rotate_left
    · simp only [Act.put, zSa, zSb, zSc, i64_w, i32_w]
      rfl
    refine pure_ (i := 2) (N := some 40) (v := ?_) (a' := ?_) #[true, true, true, false, false, false, false, false, false, false] rfl rfl (by kernel_rfl) (fun _ _ _ h => h) (Or.inl ⟨by rfl, ?_⟩) ?_ ?_
    rotate_left
    · intro w'
      go_simp
      with_reducible rfl
    rotate_left
    · simp only [Act.put, zSa, zSb, zSc, i64_w, i32_w]
      rfl
    refine pure_ (i := 3) (N := some 41) (v := ?_) (a' := ?_) #[true, true, true, true, false, false, false, false, false, false] rfl rfl (by kernel_rfl) (fun _ _ _ h => h) (Or.inl ⟨by rfl, ?_⟩) ?_ ?_
    rotate_left
    · intro w'
      go_simp
      with_reducible rfl
    rotate_left
    · simp only [Act.put, zSa, zSb, zSc, i64_w, i32_w]
      rfl
    refine pure_ (i := 4) (N := some 42) (v := ?_) (a' := ?_) #[true, true, true, true, true, false, false, false, false, false] rfl rfl (by kernel_rfl) (fun _ _ _ h => h) (Or.inl ⟨by rfl, ?_⟩) ?_ ?_
    rotate_left
    · intro w'
      go_simp
      with_reducible rfl
    rotate_left
    · simp only [Act.put, zSa, zSb, zSc, i64_w, i32_w]
      rfl
    refine pure_ (i := 5) (N := some 43) (v := ?_) (a' := ?_) #[true, true, true, true, true, true, false, false, false, false] rfl rfl (by kernel_rfl) (fun _ _ _ h => h) (Or.inl ⟨by rfl, ?_⟩) ?_ ?_
    rotate_left
    · intro w'
      go_simp
      with_reducible rfl
    rotate_left
    · simp only [Act.put, zSa, zSb, zSc, i64_w, i32_w]
      rfl
    refine pure_ (i := 6) (N := some 44) (v := ?_) (a' := ?_) #[true, true, true, true, true, true, true, false, false, false] rfl rfl (by kernel_rfl) (fun _ _ _ h => h) (Or.inl ⟨by rfl, ?_⟩) ?_ ?_
    rotate_left
    · intro w'
      go_simp
      with_reducible rfl
    rotate_left
    · simp only [Act.put, zSa, zSb, zSc, i64_w, i32_w]
      rfl
    refine one_ (i := 7) (N := some 45) #[true, true, true, true, true, true, true, true, false, false] rfl rfl (by kernel_rfl) (by decide) (fun K hK => ?_)
    refine value_ (w1 := ?_) (v := ?_) (by rfl) rfl ?_ ?_
    rotate_left 2
    · go_simp
      constructor
      · rfl
      · rfl
    refine hK.out _ _ trivial (fun hHeld => ?_)
    clear hK K
    refine norm_ (a' := ?_) ?_ ?_
    rotate_left
    · show Act.put _ (some 45) _ = _
      simp only [Act.put, zSa, zSb, zSc, i64_w, i32_w]
      rfl
    refine pure_ (i := 8) (N := some 46) (v := ?_) (a' := ?_) #[true, true, true, true, true, true, true, true, true, false] rfl rfl (by kernel_rfl) (fun _ _ _ h => h) (Or.inl ⟨by rfl, ?_⟩) ?_ ?_
    rotate_left
    · intro w'
      go_simp
      with_reducible rfl
    rotate_left
    · simp only [Act.put, zSa, zSb, zSc, i64_w, i32_w]
      rfl
    refine pure_ (i := 9) (N := some 8) (v := ?_) (a' := ?_) #[true, true, true, true, true, true, true, true, true, true] rfl rfl (by kernel_rfl) (fun _ _ _ h => h) (Or.inl ⟨by rfl, ?_⟩) ?_ ?_
    rotate_left
    · intro w'
      go_simp
      with_reducible rfl
    rotate_left
    · simp only [Act.put, zSa, zSb, zSc, i64_w, i32_w]
      rfl
    refine done_ (by kernel_rfl) ?_

    try go_wp2
    go_roundg k1
    case measure => omega
    case rel =>
      have hk := C1.out.2.2.2
      refine ⟨m + c, by rw [hk], ⟨?_⟩, F6, HB5⟩
      have := C1.out
      have := HM.out
      omega
  · have p3 : decide (M < (n : Int)) = false := decide_eq_false (by omega)
    have e1 : m = n := by have := HM.out; omega
    subst e1
    rw [hM]
    clear c1
    go_wp2
    go_ret
    rw [show (N.toNat) = m by have := HNN.out; omega]
    exact ⟨_, rfl, FF.out.row GB.out HN.out, HB2.out⟩


theorem slices_Repeat_int_int_mul_one (n : Nat) (hn : n ≤ 1099511627776) : bits_Mul.f 1 (n : Int) = some (0, (n : Int)) := by
  have hb : Go.bits .and .u64 (n : Int) 4294967295 = (n : Int) % 4294967296 := bits_mask .u64 64 (by decide) (by intro x h0 h1; show x % 18446744073709551616 = x; omega) 32 (by decide) _ (by omega) (by omega)
  have h1 : Go.bits .and .u64 (1 : Int) 4294967295 = 1 := by decide +kernel
  have h0 : Go.bits .and .u64 (0 : Int) 4294967295 = 0 := by decide +kernel
  have z : (1 : Int) / 4294967296 = 0 := by decide
  have w0 : IntKind.u64.wrap 0 = 0 := by decide
  have w1 : IntKind.u64.wrap (1 * ((n : Int) % 4294967296)) = (n : Int) % 4294967296 := by
    show (1 * ((n : Int) % 4294967296)) % 18446744073709551616 = _
    omega
  have w2 : (n : Int) % 4294967296 / 4294967296 = 0 := by omega
  have w3 : IntKind.u64.wrap (1 * ((n : Int) / 4294967296)) = (n : Int) / 4294967296 := by
    show (1 * ((n : Int) / 4294967296)) % 18446744073709551616 = _
    omega
  have w4 : IntKind.u64.wrap ((n : Int) / 4294967296) = (n : Int) / 4294967296 := by
    show ((n : Int) / 4294967296) % 18446744073709551616 = _
    omega
  have w5 : (n : Int) / 4294967296 / 4294967296 = 0 := by omega
  have w6 : IntKind.u64.wrap (1 * (n : Int)) = n := by
    show (1 * (n : Int)) % 18446744073709551616 = _
    omega
  have z0 : (0 : Int) / 4294967296 = 0 := by decide
  unfold bits_Mul.f bits_Mul64.f
  simp only [hb, h1, h0, z, z0, w0, w1, w2, w3, w4, w5, w6, Int.zero_mul, Int.zero_add, Int.add_zero, zOb]
def slices_Repeat_int_int_Fill (W : World) (e g m n : Nat) (v : Int) : Prop := ∃ cur : Array Value, W.heap[g]? = some (.cells cur e (0, 0)) ∧ cur.size = n ∧ ∀ j, j < m → cur[j]? = some (.int .i64 v)
theorem slices_Repeat_int_int_Fill.cell {W : World} {e g m n : Nat} {v : Int} (h : slices_Repeat_int_int_Fill W e g m n v) (j : Nat) (hj : j < m) : W.cell? ((⟨g, 0, none⟩ : Addr).add j) = some (.int .i64 v) := by
  obtain ⟨cur, hg, _, hc⟩ := h
  rw [add_plain]
  exact (zKc hg j).trans (hc j hj)
theorem slices_Repeat_int_int_Fill.copy {W : World} {t e ty g m n c k sc : Nat} {v : Int} {P : Program} (h : slices_Repeat_int_int_Fill W e g m n v) (hu : P.underlying t = some (.slice e)) (hs : (P.info? e).map (·.size) = some 1) (a : Addr) (dc : Nat) (hm : m ≤ n)
    (hsrc : ∀ j, j < c → W.cell? (a.add j) = some (.int .i64 v)) (hk : c = Nat.min k (n - m)) :
    ∃ W2, (Builtin.copy_ #[t, t] ty #[.slice (some ⟨g, m, none⟩) (n - m) dc, .slice (some a) k sc]).run P W = .ok (.int .i64 (c : Int)) W2 ∧ slices_Repeat_int_int_Fill W2 e g (m + c) n v ∧ (∀ B w0, B ≤ g → Below B w0 W → Below B w0 W2) := by
  obtain ⟨cur, hg, hsz, hc⟩ := h
  have hc2 : c ≤ n - m := by rw [hk]; exact Nat.min_le_right _ _
  have := run_copy_row (P := P) W t t ty e g m (n - m) dc a k sc cur e (List.replicate c (.int .i64 v)) hu hs hg (by rw [List.length_replicate, hk]) (fun j x hx => by
    have hj : j < c := by
      rcases Nat.lt_or_ge j c with h | h
      · exact h
      · rw [List.getElem?_eq_none (by simpa using h)] at hx; cases hx
    rw [hsrc j hj]
    rw [List.getElem?_replicate, if_pos hj] at hx
    exact hx) (by rw [List.length_replicate, hsz]; omega) (by intro x hx; rw [List.mem_replicate] at hx; rw [hx.2]; rfl)
  rw [List.length_replicate] at this
  refine ⟨_, this, ⟨_, setRow_heap W g cur _ e (0, 0) hg, ?_, ?_⟩, fun B w0 hB hb => below_setRow hb hB _⟩
  · simp [hsz]; omega
  · intro j hj
    rw [List.getElem?_toArray]
    rcases Nat.lt_or_ge j m with h1 | h1
    · rw [List.append_assoc, List.getElem?_append_left (by simp; omega), List.getElem?_take_of_lt h1, Array.getElem?_toList]
      exact hc j h1
    · rw [List.append_assoc, List.getElem?_append_right (by simp; omega), List.getElem?_append_left (by simp; omega), List.getElem?_replicate, if_pos (by simp; omega)]
theorem slices_Repeat_int_int_Fill.row {W : World} {e g n base : Nat} {v : Int} (h : slices_Repeat_int_int_Fill W e g n n v) (hb : base ≤ g) (hn : n ≤ 1099511627776) : Kd.R (Kd.int .i64) e W base (fun _ => True) (.slice (some ⟨g, 0, none⟩) n n) (List.replicate n v) := by
  obtain ⟨cur, hg, hsz, hc⟩ := h
  refine Kd.R_of_own ?_ (fun _ _ => trivial)
  rw [List.length_replicate]
  refine ⟨by simp [encs], .inr ⟨g, n, cur, rfl, hb, hg, Nat.le_refl _, by unfold maxLen; omega, by omega, ?_⟩⟩
  apply List.ext_getElem?
  intro j
  rcases Nat.lt_or_ge j n with h1 | h1
  · rw [List.getElem?_take_of_lt (by omega), Array.getElem?_toList, hc j h1]
    simp [encs, h1]
  · rw [List.getElem?_eq_none (by simp; omega), List.getElem?_eq_none (by simp [encs]; omega)]
def slices_Repeat_int_int.f (l0 : List Int) (a1 : Int) : Option (List Int) := if 0 ≤ a1 then (if a1 ≤ 1099511627776 then (if l0.length = 1 then some (List.replicate a1.toNat (rd l0 0)) else none) else none) else none
theorem slices_Repeat_int_int.calls (A0 : Option Addr) (c0 : Nat) (l0 : List Int) (a1 : Int) (r : List Int) (w : World) (hr0 : Kd.C (Kd.int .i64) w A0 l0.length l0) (hc0 : l0.length ≤ c0) (h : slices_Repeat_int_int.f l0 a1 = some r) :
    Calls Try.prog 19 #[.slice A0 l0.length c0, .int .i64 a1] w fun e w' => ∃ v0_ : Value, e = .returned (v0_) ∧ Kd.R (Kd.int .i64) 3 w' w.heap.size (fun _ => True) v0_ r ∧ Below w.heap.size w w' := by
  unfold slices_Repeat_int_int.f at h
  by_cases h1 : 0 ≤ a1
  rotate_left
  · rw [if_neg h1] at h; exact absurd h (by simp)
  rw [if_pos h1] at h
  by_cases h2 : a1 ≤ 1099511627776
  rotate_left
  · rw [if_neg h2] at h; exact absurd h (by simp)
  rw [if_pos h2] at h
  by_cases h3 : l0.length = 1
  rotate_left
  · rw [if_neg h3] at h; exact absurd h (by simp)
  rw [if_pos h3] at h
  obtain rfl := zOi h
  obtain ⟨n, rfl⟩ : ∃ n : Nat, (n : Int) = a1 := ⟨a1.toNat, by omega⟩
  obtain ⟨v, rfl⟩ : ∃ v, l0 = [v] := by
    match l0, h3 with
    | [v], _ => exact ⟨v, rfl⟩
  obtain ⟨ad, rfl, hsrc⟩ := zAi hr0 0 (by omega) (by simp)
  have hrd : rd [v] 0 = v := rfl
  rw [hrd] at hsrc ⊢
  have MC := zMk (fun W => bits_Mul.calls 1 (n : Int) 0 (n : Int) W (slices_Repeat_int_int_mul_one n (by omega)))
  have hlen : (([v] : List Int).length : Int) = 1 := rfl
  have HC := zMk hc0
  have HN := zMk (show n ≤ 1099511627776 by omega)
  have HS := zMk hsrc
  obtain ⟨N, hN⟩ : ∃ N : Int, (n : Int) = N := ⟨_, rfl⟩
  have HNN := zMk hN
  have q1 : IntKind.u64.wrap N = N := by show N % 18446744073709551616 = N; omega
  have q2 : wrap64 N = N := by unfold wrap64; omega
  have p1 : decide (N < 0) = false := decide_eq_false (by omega)
  have p2 : decide (N > 9223372036854775807) = false := decide_eq_false (by omega)
  rw [hN] at MC ⊢
  clear hr0 h h1 h2 h3 hN hrd hc0 hsrc
  go_enter Try.func19, Try.ntmps19
  go_upto_region 6 with (go_at_call 28; refine (MC.out _).mono ?_; rintro e w9 ⟨rfl, hd9⟩)
  have hmk : ∀ W : World, (Instr.makeSlice 31 (.int .i64 N) (.int .i64 N)).run Try.prog W = .ok (.slice (some ⟨W.heap.size, 0, none⟩) n n) (W.alloc (.cells (madeCells #[.int .i64 0] n) 3)) := by
    rw [← HNN.out]
    exact run_make_row' 31 3 (.int .i64 0) 8 Try.underlying31 info3 rfl .i64 .i64 n (by have := HN.out; omega) (by have := HN.out; omega)
  have hB9 := hd9.below
  have HS9 := zMk (pw_cell_below hB9 HS.out)
  have HB9 := zMk hB9
  clear hB9 hd9 HS MC
  go_upto_region 7 with (fail)
  have F0 : slices_Repeat_int_int_Fill (w9.alloc (.cells (madeCells #[.int .i64 0] n) 3)) 3 w9.heap.size 0 n v := ⟨_, heap_alloc_new w9 _, by simp [madeCells], fun j hj => absurd hj (by omega)⟩
  have B1 := zBa HB9.out (.cells (madeCells #[.int .i64 0] n) 3)
  have GB := zMk HB9.out.size
  have S1 : (w9.alloc (.cells (madeCells #[.int .i64 0] n) 3)).cell? (ad.add (0 : Int).toNat) = some (.int .i64 v) := (World.cell?_alloc_lt _ _ _ (World.block_lt_of_cell? _ _ HS9.out)).trans HS9.out
  clear HS9 hmk HB9
  generalize w9.alloc (.cells (madeCells #[.int .i64 0] n) 3) = w1 at F0 B1 S1 ⊢
  generalize w9.heap.size = g at F0 GB ⊢
  obtain ⟨w2, hcp, F1, HBB⟩ := F0.copy (P := Try.prog) (t := 31) (ty := 3) (k := 1) (sc := c0) (c := Nat.min 1 (n - 0)) Try.underlying31 rfl ad n (by omega) (fun j hj => by
    have : j = 0 := by have : Nat.min 1 (n - 0) ≤ 1 := Nat.min_le_left _ _; omega
    subst this; exact S1) rfl
  have HB2 := zMk (HBB _ _ GB.out B1)
  simp only [Nat.sub_zero, Nat.zero_add] at hcp F1
  have hm1 : Nat.min 1 n ≤ n ∧ (0 < n → 0 < Nat.min 1 n) := by simp only [Nat.min_def]; split <;> omega
  generalize Nat.min 1 n = m0 at hcp F1 hm1
  have FF := zMk F1
  have HM1 := zMk hm1
  clear F0 B1 S1 F1 HBB hm1
  go_upto_region 8 with (fail)
  clear hcp
  go_loopg [8] n (fun kq v8 w' => ∃ (m : Nat), v8 = .int .i64 m ∧ Aside0 (m ≤ n ∧ n ≤ m + kq ∧ (0 < n → 0 < m)) ∧ Aside0 (slices_Repeat_int_int_Fill w' 3 g m n v) ∧ Aside0 (Below w.heap.size w w'))
  case atStart => exact ⟨m0, rfl, ⟨by have := HM1.out; omega⟩, FF, HB2⟩
  clear FF HB2 HM1
  obtain ⟨m, rfl, HM, FF, HB2⟩ := hrel
  obtain ⟨M, hM⟩ : ∃ M : Int, (m : Int) = M := ⟨_, rfl⟩
  by_cases c1 : m < n
  · rcases gk with _ | k1
    · have := HM.out; omega
    obtain ⟨c, hc⟩ : ∃ c, c = Nat.min m (n - m) := ⟨_, rfl⟩
    have hcc : 0 < c ∧ m + c ≤ n := by have := HM.out; rw [hc]; simp only [Nat.min_def]; split <;> omega
    have F5 : slices_Repeat_int_int_Fill wr.drew 3 g m n v := FF.out
    obtain ⟨w6, hcp, F6, HBB⟩ := F5.copy (P := Try.prog) (t := 31) (ty := 3) (k := m) (sc := n) (c := c) Try.underlying31 rfl ⟨g, 0, none⟩ (n - m) (by omega) (fun j hj => F5.cell j (by have h_ : c ≤ m := (by rw [hc]; exact Nat.min_le_left _ _); omega)) hc
    have HB5 := zMk (HBB _ _ GB.out (zBd HB2.out))
    have F6 := zMk F6
    have hcut1 : ∀ W : World, (Instr.slice 31 (.slice (some ⟨g, 0, none⟩) n n) (some (.int .i64 M)) none none).run Try.prog W = .ok (.slice (some ⟨g, m, none⟩) (n - m) (n - m)) W := by
      intro W
      rw [← hM, cut_from 31 3 .i64 (P := Try.prog) Try.underlying31 rfl 1 rfl (some ⟨g, 0, none⟩) n n (m : Int) (by omega) (by omega) W]
      rw [if_neg (by simp; omega)]
      simp [add_plain]
    have hcut2 : ∀ W : World, (Instr.slice 31 (.slice (some ⟨g, 0, none⟩) n n) none (some (.int .i64 M)) none).run Try.prog W = .ok (.slice (some ⟨g, 0, none⟩) m n) W := by
      intro W
      rw [← hM]
      exact cut_to 31 3 .i64 (P := Try.prog) Try.underlying31 rfl (some ⟨g, 0, none⟩) n n (m : Int) (by omega) (by omega) (Nat.le_refl _) W
    obtain ⟨K2, hK2⟩ : ∃ K2 : Int, ((m + c : Nat) : Int) = K2 := ⟨_, rfl⟩
    obtain ⟨CC, hCC⟩ : ∃ CC : Int, (c : Int) = CC := ⟨_, rfl⟩
    have q3 : wrap64 (M + CC) = K2 := by have := HN.out; unfold wrap64; omega
    have p3 : decide (M < (n : Int)) = true := decide_eq_true (by omega)
    rw [hCC] at hcp
    have C1 := zMk (And.intro c1 (And.intro hcc (And.intro hM hK2)))
    rw [hM]
    clear c1 hcc hc hM hK2 hCC F5 FF HB2 HBB
    go_upto_region 9 with (fail)
    refine start_ (n := 10) (S := fun w' => True) (ds := []) #[false, false, false, false, false, false, false, false, false, false] (by kernel_rfl) rfl rfl trivial (fun hHeld => ?_)
    generalize wr.drew = w5 at hcp hHeld ⊢
    refine pure_ (i := 0) (N := some 38) (v := ?_) (a' := ?_) #[true, false, false, false, false, false, false, false, false, false] rfl rfl (by kernel_rfl) (fun _ _ _ h => h) (Or.inl ⟨by rfl, ?_⟩) ?_ ?_
    rotate_left
    · intro w'
      go_simp
      with_reducible rfl
    rotate_left
    · simp only [Act.put, zSa, zSb, zSc, i64_w, i32_w]
      rfl
    refine pure_ (i := 1) (N := some 39) (v := ?_) (a' := ?_) #[true, true, false, false, false, false, false, false, false, false] rfl rfl (by kernel_rfl) (fun _ _ _ h => h) (Or.inl ⟨by rfl, ?_⟩) ?_ ?_
    rotate_left
    · intro w'
      go_simp
      with_reducible rfl
    rotate_left
    · simp only [Act.put, zSa, zSb, zSc, i64_w, i32_w]
      rfl
    refine pure_ (i := 2) (N := some 40) (v := ?_) (a' := ?_) #[true, true, true, false, false, false, false, false, false, false] rfl rfl (by kernel_rfl) (fun _ _ _ h => h) (Or.inl ⟨by rfl, ?_⟩) ?_ ?_
    rotate_left
    · intro w'
      go_simp
      with_reducible rfl
    rotate_left
    · simp only [Act.put, zSa, zSb, zSc, i64_w, i32_w]
      rfl
    refine pure_ (i := 3) (N := some 41) (v := ?_) (a' := ?_) #[true, true, true, true, false, false, false, false, false, false] rfl rfl (by kernel_rfl) (fun _ _ _ h => h) (Or.inl ⟨by rfl, ?_⟩) ?_ ?_
    rotate_left
    · intro w'
      go_simp
      with_reducible rfl
    rotate_left
    · simp only [Act.put, zSa, zSb, zSc, i64_w, i32_w]
      rfl
    refine pure_ (i := 4) (N := some 42) (v := ?_) (a' := ?_) #[true, true, true, true, true, false, false, false, false, false] rfl rfl (by kernel_rfl) (fun _ _ _ h => h) (Or.inl ⟨by rfl, ?_⟩) ?_ ?_
    rotate_left
    · intro w'
      go_simp
      with_reducible rfl
    rotate_left
    · simp only [Act.put, zSa, zSb, zSc, i64_w, i32_w]
      rfl
    refine pure_ (i := 5) (N := some 43) (v := ?_) (a' := ?_) #[true, true, true, true, true, true, false, false, false, false] rfl rfl (by kernel_rfl) (fun _ _ _ h => h) (Or.inl ⟨by rfl, ?_⟩) ?_ ?_
    rotate_left
    · intro w'
      go_simp
      with_reducible rfl
    rotate_left
    · simp only [Act.put, zSa, zSb, zSc, i64_w, i32_w]
      rfl
    refine pure_ (i := 6) (N := some 44) (v := ?_) (a' := ?_) #[true, true, true, true, true, true, true, false, false, false] rfl rfl (by kernel_rfl) (fun _ _ _ h => h) (Or.inl ⟨by rfl, ?_⟩) ?_ ?_
    rotate_left
    · intro w'
      go_simp
      with_reducible rfl
    rotate_left
    · simp only [Act.put, zSa, zSb, zSc, i64_w, i32_w]
      rfl
    refine one_ (i := 7) (N := some 45) #[true, true, true, true, true, true, true, true, false, false] rfl rfl (by kernel_rfl) (by decide) (fun K hK => ?_)
    refine value_ (w1 := ?_) (v := ?_) (by rfl) rfl ?_ ?_
    rotate_left 2
    · go_simp
      constructor
      · rfl
      · rfl
    refine hK.out _ _ trivial (fun hHeld => ?_)
    clear hK K
    refine norm_ (a' := ?_) ?_ ?_
    rotate_left
    · show Act.put _ (some 45) _ = _
      simp only [Act.put, zSa, zSb, zSc, i64_w, i32_w]
      rfl
    refine pure_ (i := 8) (N := some 46) (v := ?_) (a' := ?_) #[true, true, true, true, true, true, true, true, true, false] rfl rfl (by kernel_rfl) (fun _ _ _ h => h) (Or.inl ⟨by rfl, ?_⟩) ?_ ?_
    rotate_left
    · intro w'
      go_simp
      with_reducible rfl
    rotate_left
    · simp only [Act.put, zSa, zSb, zSc, i64_w, i32_w]
      rfl
    refine pure_ (i := 9) (N := some 8) (v := ?_) (a' := ?_) #[true, true, true, true, true, true, true, true, true, true] rfl rfl (by kernel_rfl) (fun _ _ _ h => h) (Or.inl ⟨by rfl, ?_⟩) ?_ ?_
    rotate_left
    · intro w'
      go_simp
      with_reducible rfl
    rotate_left
    · simp only [Act.put, zSa, zSb, zSc, i64_w, i32_w]
      rfl
    refine done_ (by kernel_rfl) ?_

    try go_wp2
    go_roundg k1
    case measure => omega
    case rel =>
      have hk := C1.out.2.2.2
      refine ⟨m + c, by rw [hk], ⟨?_⟩, F6, HB5⟩
      have := C1.out
      have := HM.out
      omega
  · have p3 : decide (M < (n : Int)) = false := decide_eq_false (by omega)
    have e1 : m = n := by have := HM.out; omega
    subst e1
    rw [hM]
    clear c1
    go_wp2
    go_ret
    rw [show (N.toNat) = m by have := HNN.out; omega]
    exact ⟨_, rfl, FF.out.row GB.out HN.out, HB2.out⟩

end Go.Proofs.Ytnigaojboililaa.A
