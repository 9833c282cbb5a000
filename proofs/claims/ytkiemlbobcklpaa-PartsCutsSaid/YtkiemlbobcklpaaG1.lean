/- Lemmas for the statement: the walks of the functions that it reaches, and plain laws. -/
import Derived.Shelf.Small.Bits
import Derived.Shelf.Small.Wraps
import Derived.Shelf.Strconv.Itoa0
import Derived.Shelf.Sort.Plain
import Derived.Shelf.Slices.Turned
import Derived.Shelf.Slices.Reverse
import Derived.Ground.Names2Prog
import Derived.Shelf.Slices.SearchI
import Derived.Shelf.Slices.Cells
import Derived.Shelf.Slices.In.SortNone
import Derived.Ground.SlgnProg
import Derived.Shelf.SlicesE.Reverse
import Derived.Ground.SlsfProg
import Derived.Shelf.SlSortCmp.Insertion
import Derived.Shelf.SlSortCmp.SiftDown1
import Derived.Shelf.SlSortCmp.HeapSort1
import Derived.Shelf.SlSortCmp.Insertion1
import Derived.Shelf.SlSortCmp.Median1
import Derived.Shelf.SlSortCmp.Pivot1
import Derived.Shelf.SlSortCmp.ReverseRange1
import Derived.Shelf.SlSortCmp.PartialInsertion1
import Derived.Shelf.SlSortCmp.PartitionEqual1
import Derived.Shelf.SlSortCmp.Partition1
import Derived.Shelf.SlSortCmp.Pdq1
import Derived.Shelf.SlSortCmp.Whole1
import Derived.Shelf.SlSortCmp.NoneTotal
import Derived.Test.YtkiemlbobcklpaaProg
import Derived.Test.YtkiemlbobcklpaaVMore
import Derived.Test.YtkiemlbobcklpaaVN
import Derived.Below
import Derived.Deep.Draws
import Derived.Deep.AppendLies
import Derived.Maps.AppendAt
import Derived.OwnWalk
import Derived.Laws.BytesArg
import Derived.Laws.MakeOwn
import Derived.Laws.OwnMore
import Derived.Deep.OwnRows
import Derived.Tactics
import Derived.Lib.ConvBytes
import Derived.Laws.Slices
import Derived.WalkKit
import Derived.KernelRfl
import Derived.RowKit3
import Derived.Deep.LoopGhost
import Derived.Deep.QuietTactic
import Derived.BigQuiet
import Derived.WideLaws
import Derived.Deep.DeepCutAuto
import Derived.Deep.CutBlock
import Derived.Deep.RegionHeld3
import Derived.Laws.Rows
import Derived.Lib.AppendStr
import Derived.ArgAppend
import Derived.Laws.IdiomCopy
import Derived.OrdersHeld
import Derived.Laws.BitsLemmas
import Derived.RowKit
import Derived.WalkSpells
import Derived.RangeFuncNested
import Derived.RangeFuncBound
import Derived.RangeFuncCalls
import Derived.RangeFuncLeaves
import Derived.Shelf.Abstract
import Derived.Shelf.RegionOpen
import Derived.OwnWalkIn
import Derived.TacticsInMore
import Derived.LoopNIn
import Derived.LoopIn
import Derived.StillTailTactics
import Derived.OrdersIn
import Derived.TacticsIn
import Derived.Deep.RegionWith
import Derived.Sort.Grow
import Derived.Shelf.SlSortCmp.InsertionK
import Derived.Laws.ResultCell
import Derived.Laws.EntriesVeiled
import Derived.Test.YtkiemlbobcklpaaVWords
import Derived.Test.YtkiemlbobcklpaaVLast
import Derived.Test.YtkiemlbobcklpaaVTab
import Derived.Test.YtkiemlbobcklpaaVQPut
import Derived.Test.YtkiemlbobcklpaaVApart
import Derived.Test.YtkiemlbobcklpaaVArr
import Derived.Test.YtkiemlbobcklpaaVZeros
import Derived.Test.YtkiemlbobcklpaaVFoot
import Derived.Test.YtkiemlbobcklpaaVKept
import Derived.Test.YtkiemlbobcklpaaVShare
import Derived.Test.YtkiemlbobcklpaaVFootNe
import Derived.Test.YtkiemlbobcklpaaVAt
import Derived.Test.YtkiemlbobcklpaaVEqStruct
import Derived.Test.YtkiemlbobcklpaaVRepsOne
import Derived.Test.YtkiemlbobcklpaaVInv
import Derived.Test.YtkiemlbobcklpaaVInvWords
import Derived.Test.YtkiemlbobcklpaaVGuard
import Derived.Test.YtkiemlbobcklpaaVNEv
set_option linter.unusedVariables false
set_option linter.unusedSimpArgs false
set_option maxHeartbeats 8000000
set_option maxRecDepth 100000
namespace Go.Proofs
open Go.Shelf
def Try.lays189_ren : Go.Shelf.Ren := ⟨fun | 189 => 29 | 125 => 44 | 257 => 43 | 128 => 60 | 129 => 61 | 294 => 51 | 295 => 52 | 296 => 53 | 297 => 54 | 298 => 55 | 299 => 56 | 216 => 57 | 300 => 58 | 301 => 59 | 328 => 66 | 329 => 67 | 330 => 68 | 331 => 69 | 332 => 70 | 215 => 65 | 343 => 81 | n => n, fun | 28 => 33 | 3 => 3 | 46 => 69 | 0 => 0 | 51 => 84 | 53 => 86 | 4 => 4 | 183 => 77 | 182 => 76 | 131 => 61 | 5 => 5 | 9 => 9 | 218 => 92 | 222 => 96 | 228 => 103 | 229 => 104 | n => n, fun | n => n⟩
theorem Try.lays189 : Go.Proofs.Lays.n189 Try.prog Try.lays189_ren := {
 mixed := by kernel_rfl
 f125 := Try.func44.trans (congrArg some (by kernel_rfl))
 f128 := Try.func60.trans (congrArg some (by kernel_rfl))
 f129 := Try.func61.trans (congrArg some (by kernel_rfl))
 f189 := Try.func29.trans (congrArg some (by kernel_rfl))
 f215 := Try.func65.trans (congrArg some (by kernel_rfl))
 f216 := Try.func57.trans (congrArg some (by kernel_rfl))
 f257 := Try.func43.trans (congrArg some (by kernel_rfl))
 f294 := Try.func51.trans (congrArg some (by kernel_rfl))
 f295 := Try.func52.trans (congrArg some (by kernel_rfl))
 f296 := Try.func53.trans (congrArg some (by kernel_rfl))
 f297 := Try.func54.trans (congrArg some (by kernel_rfl))
 f298 := Try.func55.trans (congrArg some (by kernel_rfl))
 f299 := Try.func56.trans (congrArg some (by kernel_rfl))
 f300 := Try.func58.trans (congrArg some (by kernel_rfl))
 f301 := Try.func59.trans (congrArg some (by kernel_rfl))
 f328 := Try.func66.trans (congrArg some (by kernel_rfl))
 f329 := Try.func67.trans (congrArg some (by kernel_rfl))
 f330 := Try.func68.trans (congrArg some (by kernel_rfl))
 f331 := Try.func69.trans (congrArg some (by kernel_rfl))
 f332 := Try.func70.trans (congrArg some (by kernel_rfl))
 f343 := Try.func81.trans (congrArg some (by kernel_rfl))
 t0 := Try.underlying0
 a0 := Try.isAgg0
 z0 := Try.sizeOf0
 v0 := Try.zeroValue0
 t3 := Try.underlying3
 a3 := Try.isAgg3
 z3 := Try.sizeOf3
 v3 := Try.zeroValue3
 t4 := Try.underlying4
 a4 := Try.isAgg4
 z4 := Try.sizeOf4
 v4 := Try.zeroValue4
 t5 := Try.underlying5
 a5 := Try.isAgg5
 z5 := Try.sizeOf5
 v5 := Try.zeroValue5
 t9 := Try.underlying9
 a9 := Try.isAgg9
 z9 := Try.sizeOf9
 v9 := Try.zeroValue9
 t28 := Try.underlying33
 a28 := Try.isAgg33
 z28 := Try.sizeOf33
 v28 := Try.zeroValue33
 t46 := Try.underlying69
 a46 := Try.isAgg69
 z46 := Try.sizeOf69
 v46 := Try.zeroValue69
 t51 := Try.underlying84
 a51 := Try.isAgg84
 z51 := Try.sizeOf84
 v51 := Try.zeroValue84
 t53 := Try.underlying86
 a53 := Try.isAgg86
 z53 := Try.sizeOf86
 v53 := Try.zeroValue86
 t131 := Try.underlying61
 a131 := Try.isAgg61
 z131 := Try.sizeOf61
 v131 := Try.zeroValue61
 t182 := Try.underlying76
 a182 := Try.isAgg76
 z182 := Try.sizeOf76
 v182 := Try.zeroValue76
 t183 := Try.underlying77
 a183 := Try.isAgg77
 z183 := Try.sizeOf77
 v183 := Try.zeroValue77
 t218 := Try.underlying92
 a218 := Try.isAgg92
 z218 := Try.sizeOf92
 v218 := Try.zeroValue92
 t222 := Try.underlying96
 a222 := Try.isAgg96
 z222 := Try.sizeOf96
 v222 := Try.zeroValue96
 t228 := Try.underlying103
 a228 := Try.isAgg103
 z228 := Try.sizeOf103
 v228 := Try.zeroValue103
 t229 := Try.underlying104
 a229 := Try.isAgg104
 z229 := Try.sizeOf104
 v229 := Try.zeroValue104 }
open Go.Sort Go.RowKit in
theorem Try.slices_Sort_int (blk off cap : Nat) (zs : List Int) (w : World) (hH : Holds (Value.int .i64) w blk off zs.toArray) (hblk : blk < w.heap.size) (hsz : zs.length < 4611686018427387904) :
  Calls Try.prog 29 #[.slice (some ⟨blk, off, none⟩) zs.length cap] w fun e w' =>
   e = .returned (.tuple #[]) ∧ ∃ n os, w' = grow (putRow (Value.int .i64) (Sort.ahead w n) blk off (zs.mergeSort fun x y => decide (x ≤ y)).toArray) os := Any.slices_Sort_int Try.lays189 blk off cap zs w hH hblk hsz
def Try.lays108_ren : Go.Shelf.Ren := ⟨fun | 108 => 82 | n => n, fun | 28 => 33 | 3 => 3 | 0 => 0 | 4 => 4 | n => n, fun | n => n⟩
theorem Try.lays108 : Go.Proofs.Lays.n108 Try.prog Try.lays108_ren := {
 mixed := by kernel_rfl
 f108 := Try.func82.trans (congrArg some (by kernel_rfl))
 t0 := Try.underlying0
 a0 := Try.isAgg0
 z0 := Try.sizeOf0
 v0 := Try.zeroValue0
 t3 := Try.underlying3
 a3 := Try.isAgg3
 z3 := Try.sizeOf3
 v3 := Try.zeroValue3
 t4 := Try.underlying4
 a4 := Try.isAgg4
 z4 := Try.sizeOf4
 v4 := Try.zeroValue4
 t28 := Try.underlying33
 a28 := Try.isAgg33
 z28 := Try.sizeOf33
 v28 := Try.zeroValue33 }
open Go.Lib in
theorem Try.slices_Index_int (b off n c : Nat) (zs : List Int) (x : Int) (w : World) (hz : n ≤ zs.length) (hbig : n ≤ 9223372036854775807) (hc : ∀ j, j < zs.length → w.cell? ⟨b, off + j, none⟩ = some (.int .i64 (zs.getD j 0))) :
  Calls Try.prog 82 #[.slice (some ⟨b, off, none⟩) n c, .int .i64 x] w fun e w' => e = .returned (.int .i64 (Lib.idxOf (zs.take n) x)) ∧ w' = w := Any.slices_Index_int Try.lays108 b off n c zs x w hz hbig hc
open Go.RowKit Go.Sort in
theorem Try.slices_Sort_int_none (p : Option Addr) (cap : Nat) (w : World) :
  Calls Try.prog 29 #[.slice p 0 cap] w fun e w' => e = .returned (.tuple #[]) ∧ w' = w := Any.slices_Sort_int_none Try.lays189 p cap w
end Go.Proofs
namespace Go.Proofs.YtkiemlbobcklpaaW.PrintWords
open Go Go.RowKit Go.Proofs.YtkiemlbobcklpaaW.PrintWords Go.Proofs.YtkiemlbobcklpaaW.PrintLast Go.Proofs.YtkiemlbobcklpaaW.PrintMore
attribute [local go_sem] max2_int min2_int max_two min_two max_three min_three max_four min_four
open Go.Proofs.YtkiemlbobcklpaaW.PrintWords.Kd renaming R_alloc → zRa, R_drewN → zRn, R_drew → zRd, C_alloc → zCa, C_drewN → zCn, C_drew → zCd, R_mono → zRm, at_int → zAi, R_elder' → zRe, R_lower → zRl, R_new' → zRw, R_lt → zRt, R_below → zRb, R_base → zRz, R_reads' → zRr, R_slice → zRs
open Go.Proofs.YtkiemlbobcklpaaW.PrintWords renaming pw_below_drewN → zBn, below_alloc → zBa, below_drew1 → zBd, below_size → zBs, below_step → zBt, blk_drewN → zKn, blk_drew → zKd, blk_alloc → zKa, blk_below → zKb, blk_cell → zKc, blk_frozen → zKf
open List renaming setIfInBounds_toArray → zSa, set_cons_zero → zSb, set_cons_succ → zSc, length_drop → zLd, length_take → zLt, map_toArray → zMa, map_cons → zMc, map_nil → zMn, length_cons → zLc, length_nil → zLn
open Go.Proofs.YtkiemlbobcklpaaW.PrintWords.Aside0 renaming mk → zMk
open Option renaming bind_eq_some_iff → zBi, bind_some → zOb
open Option.some renaming inj → zOi
open Int renaming toNat_natCast → zTn
structure Up (W W1 : World) : Prop where
  b : Below W.heap.size W W1
instance upRefl (W : World) : Nonempty (Up W W) := ⟨⟨Below.refl _ _⟩⟩
instance upAlloc (W W1 : World) (o : Obj) [h : Nonempty (Up W W1)] : Nonempty (Up W (W1.alloc o)) := ⟨⟨zBa (h.elim fun u => u.b) o⟩⟩
instance upDrew (W W1 : World) [h : Nonempty (Up W W1)] : Nonempty (Up W W1.drew) := ⟨⟨below_drew (h.elim fun u => u.b)⟩⟩
instance upDrewN (W W1 : World) (n : Nat) [h : Nonempty (Up W W1)] : Nonempty (Up W (W1.drewN n)) := ⟨⟨zBn (h.elim fun u => u.b) n⟩⟩
structure Own (w : World) (g : Nat) : Prop where
  h : w.heap.size ≤ g
theorem ownGe {w : World} {g : Nat} (h : w.heap.size ≤ g) : Nonempty (Own w g) := ⟨⟨h⟩⟩
structure UpB (w W W1 : World) : Prop where
  f : Below w.heap.size w W → Below w.heap.size w W1
instance upbRefl (w W : World) : Nonempty (UpB w W W) := ⟨⟨id⟩⟩
instance upbAlloc (w W W1 : World) (o : Obj) [h : Nonempty (UpB w W W1)] : Nonempty (UpB w W (W1.alloc o)) := ⟨⟨fun x => zBa (h.elim fun u => u.f x) o⟩⟩
instance upbDrew (w W W1 : World) [h : Nonempty (UpB w W W1)] : Nonempty (UpB w W W1.drew) := ⟨⟨fun x => below_drew (h.elim fun u => u.f x)⟩⟩
instance upbDrewN (w W W1 : World) (n : Nat) [h : Nonempty (UpB w W W1)] : Nonempty (UpB w W (W1.drewN n)) := ⟨⟨fun x => zBn (h.elim fun u => u.f x) n⟩⟩
instance upbSet (w W W1 : World) (g j : Nat) (v : Value) [h : Nonempty (UpB w W W1)] [g0 : Nonempty (Own w g)] : Nonempty (UpB w W (W1.setCell ⟨g, j, none⟩ v)) := ⟨⟨fun x => below_set (h.elim fun u => u.f x) (g0.elim fun u => u.h)⟩⟩
theorem uT {w W W1 : World} (h : Below w.heap.size w W) [u : Nonempty (UpB w W W1)] : Below w.heap.size w W1 := (u.elim fun u => u.f) h
theorem uR {α : Type} {d : Kd α} {e base : Nat} {ok : Nat → Prop} {v : Value} {xs : List α} {W W1 : World} (h : d.R e W base ok v xs) [u : Nonempty (Up W W1)] : d.R e W1 base ok v xs := zRb h (u.elim fun u => u.b)
theorem uC {α : Type} {d : Kd α} {A : Option Addr} {n : Nat} {xs : List α} {W W1 : World} (h : d.C W A n xs) [u : Nonempty (Up W W1)] : d.C W1 A n xs := Kd.C_below h (u.elim fun u => u.b)
theorem bnd {α β : Type} {x : Option α} {f : α → Option β} {b : β} (h : x.bind f = some b) : ∃ a, x = some a ∧ f a = some b := Option.bind_eq_some_iff.mp h
theorem bsm {α β : Type} {x : α} {f : α → Option β} {b : Option β} (h : (some x).bind f = b) : f x = b := h
end Go.Proofs.YtkiemlbobcklpaaW.PrintWords
namespace Go.Proofs.Ytkiemlbobcklpaa.A
open Go Go.RowKit Go.Proofs.YtkiemlbobcklpaaW.PrintWords Go.Proofs.YtkiemlbobcklpaaW.PrintLast Go.Proofs.YtkiemlbobcklpaaW.PrintMore
attribute [local go_sem] max2_int min2_int max_two min_two max_three min_three max_four min_four
open Go.Proofs.YtkiemlbobcklpaaW.PrintWords.Kd renaming R_alloc → zRa, R_drewN → zRn, R_drew → zRd, C_alloc → zCa, C_drewN → zCn, C_drew → zCd, R_mono → zRm, at_int → zAi, R_elder' → zRe, R_lower → zRl, R_new' → zRw, R_lt → zRt, R_below → zRb, R_base → zRz, R_reads' → zRr, R_slice → zRs
open Go.Proofs.YtkiemlbobcklpaaW.PrintWords renaming pw_below_drewN → zBn, below_alloc → zBa, below_drew1 → zBd, below_size → zBs, below_step → zBt, blk_drewN → zKn, blk_drew → zKd, blk_alloc → zKa, blk_below → zKb, blk_cell → zKc, blk_frozen → zKf
open List renaming setIfInBounds_toArray → zSa, set_cons_zero → zSb, set_cons_succ → zSc, length_drop → zLd, length_take → zLt, map_toArray → zMa, map_cons → zMc, map_nil → zMn, length_cons → zLc, length_nil → zLn
open Go.Proofs.YtkiemlbobcklpaaW.PrintWords.Aside0 renaming mk → zMk
open Option renaming bind_eq_some_iff → zBi, bind_some → zOb
open Option.some renaming inj → zOi
open Int renaming toNat_natCast → zTn



def errW : Option Int → Value
 | none => .nilIface
 | some c => .iface 0 (.int .i64 c)
theorem errW_none : errW none = .nilIface := rfl
theorem errW_some (c : Int) : errW (some c) = .iface 0 (.int .i64 c) := rfl

theorem info3 : (Try.prog.info? 3).map (fun i => (i.zero, i.size, i.bytes)) = some (some (.int .i64 0), 1, 8) := by kernel_rfl
theorem info4 : (Try.prog.info? 4).map (fun i => (i.zero, i.size, i.bytes)) = some (some (.bool false), 1, 1) := by kernel_rfl
theorem info33 : (Try.prog.info? 33).map (fun i => (i.zero, i.size, i.bytes)) = some (some (.slice none 0 0), 1, 24) := by kernel_rfl
theorem info43 : (Try.prog.info? 43).map (fun i => (i.zero, i.size, i.bytes)) = some (some (.agg #[(.int .i64 0), (.int .i64 0), (.int .i64 0)]), 3, 24) := by kernel_rfl
theorem info49 : (Try.prog.info? 49).map (fun i => (i.zero, i.size, i.bytes)) = some (some (.slice none 0 0), 1, 24) := by kernel_rfl
theorem info51 : (Try.prog.info? 51).map (fun i => (i.zero, i.size, i.bytes)) = some (some (.agg #[(.int .i64 0), (.int .i64 0)]), 2, 16) := by kernel_rfl
-- the values' own types
structure S43 where
 f0 : Int
 f1 : Int
 f2 : Int
def z43 : S43 := ⟨(0 : Int), (0 : Int), (0 : Int)⟩
def k43 : Kd S43 := Kd.iso (Kd.pair (Kd.int .i64) (Kd.pair (Kd.int .i64) (Kd.int .i64))) (fun x : S43 => (x.f0, x.f1, x.f2))
theorem k43_open {w : World} {x : S43} {cs : List Value} (h : k43.K w x cs) : cs = [.int .i64 x.f0, .int .i64 x.f1, .int .i64 x.f2] := by
 obtain ⟨_, _, rfl, rfl, ⟨_, _, rfl, rfl, rfl⟩⟩ := h
 exact rfl
theorem k43_mk (w : World) (x : S43)  : k43.K w x [.int .i64 x.f0, .int .i64 x.f1, .int .i64 x.f2] := ⟨[.int .i64 x.f0], [.int .i64 x.f1, .int .i64 x.f2], rfl, rfl, ⟨[.int .i64 x.f1], [.int .i64 x.f2], rfl, rfl, rfl⟩⟩
theorem k43_mkM (w : World) (base : Nat) (ok : Nat → Prop) (x : S43)  : k43.M w base ok x [.int .i64 x.f0, .int .i64 x.f1, .int .i64 x.f2] := ⟨[.int .i64 x.f0], [.int .i64 x.f1, .int .i64 x.f2], rfl, rfl, ⟨[.int .i64 x.f1], [.int .i64 x.f2], rfl, rfl, rfl⟩⟩
def rd_T43 (xs : List S43) (i : Int) : S43 := xs.getD i.toNat z43
theorem at_T43 {w : World} {A : Option Addr} {n : Nat} {xs : List S43} (h : Kd.C k43 w A n xs) (i : Int) (h0 : 0 ≤ i) (h1 : i < n) : ∃ ad , A = some ad ∧ w.cell? (ad.add (i.toNat * 3)) = some (.int .i64 (rd_T43 xs i).f0) ∧ w.cell? ⟨(ad.add (i.toNat * 3)).block, (ad.add (i.toNat * 3)).off + 1, none⟩ = some (.int .i64 (rd_T43 xs i).f1) ∧ w.cell? ⟨(ad.add (i.toNat * 3)).block, (ad.add (i.toNat * 3)).off + 2, none⟩ = some (.int .i64 (rd_T43 xs i).f2) := by
 obtain ⟨ad, c, e, _, hK, hc0⟩ := Kd.C_get h z43 i h0 h1
 have hc : ∀ j u, c[j]? = some u → w.cell? (ad.add (i.toNat * 3 + j)) = some u := hc0
 obtain rfl := k43_open hK
 exact ⟨ad, e, hc 0 _ rfl, by rw [← add_field _ _ 1 (by omega)]; exact hc 1 _ rfl, by rw [← add_field _ _ 2 (by omega)]; exact hc 2 _ rfl⟩

structure S51 where
 f0 : Int
 f1 : Int
def z51 : S51 := ⟨(0 : Int), (0 : Int)⟩
def k51 : Kd S51 := Kd.iso (Kd.pair (Kd.int .i64) (Kd.int .i64)) (fun x : S51 => (x.f0, x.f1))
theorem k51_open {w : World} {x : S51} {cs : List Value} (h : k51.K w x cs) : cs = [.int .i64 x.f0, .int .i64 x.f1] := by
 obtain ⟨_, _, rfl, rfl, rfl⟩ := h
 exact rfl
theorem k51_mkM (w : World) (base : Nat) (ok : Nat → Prop) (x : S51)  : k51.M w base ok x [.int .i64 x.f0, .int .i64 x.f1] := ⟨[.int .i64 x.f0], [.int .i64 x.f1], rfl, rfl, rfl⟩
def rd_T51 (xs : List S51) (i : Int) : S51 := xs.getD i.toNat z51
theorem at_T51 {w : World} {A : Option Addr} {n : Nat} {xs : List S51} (h : Kd.C k51 w A n xs) (i : Int) (h0 : 0 ≤ i) (h1 : i < n) : ∃ ad , A = some ad ∧ w.cell? (ad.add (i.toNat * 2)) = some (.int .i64 (rd_T51 xs i).f0) ∧ w.cell? ⟨(ad.add (i.toNat * 2)).block, (ad.add (i.toNat * 2)).off + 1, none⟩ = some (.int .i64 (rd_T51 xs i).f1) := by
 obtain ⟨ad, c, e, _, hK, hc0⟩ := Kd.C_get h z51 i h0 h1
 have hc : ∀ j u, c[j]? = some u → w.cell? (ad.add (i.toNat * 2 + j)) = some u := hc0
 obtain rfl := k51_open hK
 exact ⟨ad, e, hc 0 _ rfl, by rw [← add_field _ _ 1 (by omega)]; exact hc 1 _ rfl⟩

def rd_L3 (xs : List (List S51)) (i : Int) : (List S51) := xs.getD i.toNat ([] : List S51)
theorem at_L3 {w : World} {A : Option Addr} {n : Nat} {xs : List (List S51)} (h : Kd.C (Kd.slice 51 k51) w A n xs) (i : Int) (h0 : 0 ≤ i) (h1 : i < n) : ∃ ad A0 c0, A = some ad ∧ w.cell? (ad.add i.toNat) = some (.slice A0 (rd_L3 xs i).length c0) ∧ (rd_L3 xs i).length ≤ c0 ∧ k51.C w A0 (rd_L3 xs i).length (rd_L3 xs i) := by
 obtain ⟨ad, c, e, _, hK, hc0⟩ := Kd.C_get h ([] : List S51) i h0 h1
 have hc : ∀ j u, c[j]? = some u → w.cell? (ad.add (i.toNat * 1 + j)) = some u := hc0
 obtain ⟨A0, c0, rfl, l0, g0⟩ := hK
 exact ⟨ad, A0, c0, e, by have hq := hc 0 _ rfl; rwa [Nat.mul_one, Nat.add_zero] at hq, l0, g0⟩

def rd_L4 (xs : List (List Int)) (i : Int) : (List Int) := xs.getD i.toNat ([] : List Int)
theorem at_L4 {w : World} {A : Option Addr} {n : Nat} {xs : List (List Int)} (h : Kd.C (Kd.slice 3 (Kd.int .i64)) w A n xs) (i : Int) (h0 : 0 ≤ i) (h1 : i < n) : ∃ ad A0 c0, A = some ad ∧ w.cell? (ad.add i.toNat) = some (.slice A0 (rd_L4 xs i).length c0) ∧ (rd_L4 xs i).length ≤ c0 ∧ (Kd.int .i64).C w A0 (rd_L4 xs i).length (rd_L4 xs i) := by
 obtain ⟨ad, c, e, _, hK, hc0⟩ := Kd.C_get h ([] : List Int) i h0 h1
 have hc : ∀ j u, c[j]? = some u → w.cell? (ad.add (i.toNat * 1 + j)) = some u := hc0
 obtain ⟨A0, c0, rfl, l0, g0⟩ := hK
 exact ⟨ad, A0, c0, e, by have hq := hc 0 _ rfl; rwa [Nat.mul_one, Nat.add_zero] at hq, l0, g0⟩

structure S24 where
 f0 : Int
 f1 : (List S43)
def z24 : S24 := ⟨(0 : Int), ([] : List S43)⟩

def graph_sizes.f (a0 : Int) (a1 : Int) : Option (Int) := if a0 < 0 then (some 1) else (if a0 > 1048576 then (some 4) else (if a1 > 4194304 then (some 4) else (some 0)))
theorem graph_sizes.calls (a0 : Int) (a1 : Int) (r : Int) (w : World) (h : graph_sizes.f a0 a1 = some r) :
    Calls Try.prog 40 #[.int .i64 a0, .int .i64 a1] w fun e w' => e = .returned (.int .i64 r) ∧ Drawn0 w w' := by
  have H : (if a0 < 0 then (some 1) else (if a0 > 1048576 then (some 4) else (if a1 > 4194304 then (some 4) else (some 0)))) = some r := h
  clear h
  by_cases c3 : a0 < 0
  · rw [if_pos c3] at H
    have c3b0 : decide (a0 < 0) = true := decide_eq_true c3
    clear c3
    obtain rfl := zOi H
    go_enter Try.func40, Try.ntmps40
    go_wp2
    go_ret
    exact ⟨by first | rfl | (simp; done) | (simp [*]; done), by repeat (first | exact Drawn0.refl _ | apply Drawn0.step)⟩
  · rw [if_neg c3] at H
    have c3b0 : decide (a0 < 0) = false := decide_eq_false c3
    clear c3
    by_cases c4 : a0 > 1048576
    · rw [if_pos c4] at H
      have c4b0 : decide (1048576 < a0) = true := decide_eq_true c4
      clear c4
      obtain rfl := zOi H
      go_enter Try.func40, Try.ntmps40
      go_wp2
      go_ret
      exact ⟨by first | rfl | (simp; done) | (simp [*]; done), by repeat (first | exact Drawn0.refl _ | apply Drawn0.step)⟩
    · rw [if_neg c4] at H
      have c4b0 : decide (1048576 < a0) = false := decide_eq_false c4
      clear c4
      by_cases c5 : a1 > 4194304
      · rw [if_pos c5] at H
        have c5b0 : decide (4194304 < a1) = true := decide_eq_true c5
        clear c5
        obtain rfl := zOi H
        go_enter Try.func40, Try.ntmps40
        go_wp2
        go_ret
        exact ⟨by first | rfl | (simp; done) | (simp [*]; done), by repeat (first | exact Drawn0.refl _ | apply Drawn0.step)⟩
      · rw [if_neg c5] at H
        have c5b0 : decide (4194304 < a1) = false := decide_eq_false c5
        clear c5
        obtain rfl := zOi H
        go_enter Try.func40, Try.ntmps40
        go_wp2
        go_ret
        exact ⟨by first | rfl | (simp; done) | (simp [*]; done), by repeat (first | exact Drawn0.refl _ | apply Drawn0.step)⟩


def graph_alone.j0 : Nat → Bool → Int → Int → Int → Option (Int)
 | 0, _, _, _, _ => none
 | k + 1, x5, x103000, x103001, x103002 => if x5 = true then (some 5) else (if x103000 = x103001 then (some 6) else (if x103002 ≤ (-2147483648) then (some 8) else (if x103002 ≥ 2147483648 then (some 8) else (some 0))))
def graph_alone.f (k : Nat) (a0 : Int) (a1_0 : Int) (a1_1 : Int) (a1_2 : Int) : Option (Int) := if (mn a1_0 a1_1) < 0 then (graph_alone.j0 k true a1_0 a1_1 a1_2) else (graph_alone.j0 k (decide ((mx a1_0 a1_1) ≥ a0)) a1_0 a1_1 a1_2)
theorem graph_alone.calls (k : Nat) (a0 : Int) (a1_0 : Int) (a1_1 : Int) (a1_2 : Int) (r : Int) (w : World) (h : graph_alone.f k a0 a1_0 a1_1 a1_2 = some r) :
  Calls Try.prog 41 #[.int .i64 a0, .agg #[.int .i64 a1_0, .int .i64 a1_1, .int .i64 a1_2]] w fun e w' => e = .returned (.int .i64 r) ∧ Below w.heap.size w w' := by
 have hu43 := Try.underlying43
 have HB := zMk (Below.refl w.heap.size w)
 have H : (if (mn a1_0 a1_1) < 0 then (graph_alone.j0 k true a1_0 a1_1 a1_2) else (graph_alone.j0 k (decide ((mx a1_0 a1_1) ≥ a0)) a1_0 a1_1 a1_2)) = some r := h
 clear h
 have HC3 := zMk H
 clear H
 go_enter Try.func41, Try.ntmps41
 go_upto_region 1 with (first | ((with_reducible refine gate_dst (N:=3) rfl ?_); (try (refine gate_guard (by rfl) ?_; dsimp only)); refine box_event ?hg (N:=3) ?hd (cs:=#[.int .i64 a1_0, .int .i64 a1_1, .int .i64 a1_2]) (t:=43) ?hr ?_; (case hd => rfl); (case hg => rfl); (case hr => first | (go_simp; done)|(go_simp; rfl)|(go_simp; rw [show ∀ x : Int, IntKind.u32.wrap (IntKind.u8.wrap x) = x % 256 from fun x => (by show (x % 256) % 4294967296 = x % 256; omega)])); intro gb102 hg w4 hbox hb; have BK102 := zMk (hbox); have GW102 := zMk ((by rw [hg]; exact (zBs (by exact uT HB.out)) : w.heap.size ≤ gb102)); have GE102 := zMk ((by rw [hg]; exact (zBs (by exact uT HB.out)) : w.heap.size ≤ gb102)); have IGE102 := ownGe GE102.out; replace HB := zMk (zBt (by exact uT HB.out) hb); clear hb hbox hg))
 (try simp only [Act.put, zSa, zSb, zSc])
 go_cut [5] (fun v5 wc => ∃ (kq : Nat) (x5_2 : Bool), v5 = .bool x5_2 ∧ Aside0 (graph_alone.j0 kq x5_2 a1_0 a1_1 a1_2 = some r) ∧ Aside0 (kq ≤ k) ∧ Aside0 (wc.heap[gb102]? = some (.cells #[.int .i64 a1_0, .int .i64 a1_1, .int .i64 a1_2] 43 (0, 0))) ∧ Aside0 (Below w.heap.size w wc))
 case first =>
  have H := HC3.out
  clear HC3
  obtain ⟨ji5, hji5⟩ : ∃ j_ : Int, (mn a1_0 a1_1) = j_ := ⟨_, rfl⟩
  replace H : (if (ji5) < 0 then (graph_alone.j0 k true a1_0 a1_1 a1_2) else (graph_alone.j0 k (decide ((mx a1_0 a1_1) ≥ a0)) a1_0 a1_1 a1_2)) = some r := by first | (rw [hji5] at H; exact H) | (simp only [hji5] at H ⊢; exact H)
  have hji5_ : (if a1_1 < a1_0 then a1_1 else a1_0) = ji5 := hji5
  by_cases c6 : (ji5) < 0
  ·rw [if_pos c6] at H
   have c6b0 : decide ((ji5) < 0) = true := decide_eq_true c6
   clear c6
   (first | rw [c6b0] | (simp only [i64_w, i32_w]; rw [c6b0]) | rw [c6b1] | skip)
   have H' := zMk H
   clear H
   have hcz7_0 : w4.cell? ⟨gb102, 0, none⟩ = some (.int .i64 a1_0) := (zKc BK102.out 0).trans rfl
   have hcz7_1 : w4.cell? ⟨gb102, 1, none⟩ = some (.int .i64 a1_1) := (zKc BK102.out 1).trans rfl
   have hcz7_2 : w4.cell? ⟨gb102, 2, none⟩ = some (.int .i64 a1_2) := (zKc BK102.out 2).trans rfl
   have hfz7_0 := zKf BK102.out 0
   have hfz7_1 := zKf BK102.out 1
   have hfz7_2 := zKf BK102.out 2
   go_wp2
   go_meet
   case rel => exact ⟨_, (true), (by first | rfl | (simp; done) | (simp [*]; done)), H', ⟨by first | omega | exact Nat.le_refl _⟩, ⟨by (with_reducible repeat (first | refine zKn ?_ _ | refine zKd ?_ | refine zKa ?_ _)); exact BK102.out⟩, ⟨by exact uT HB.out⟩⟩
  ·rw [if_neg c6] at H
   have c6b0 : decide ((ji5) < 0) = false := decide_eq_false c6
   clear c6
   (first | rw [c6b0] | (simp only [i64_w, i32_w]; rw [c6b0]) | rw [c6b1] | skip)
   obtain ⟨ji8, hji8⟩ : ∃ j_ : Int, (mx a1_0 a1_1) = j_ := ⟨_, rfl⟩
   replace H : (graph_alone.j0 k (decide ((ji8) ≥ a0)) a1_0 a1_1 a1_2) = some r := by first | (rw [hji8] at H; exact H) | (simp only [hji8] at H ⊢; exact H)
   have hji8_ : (if a1_0 < a1_1 then a1_1 else a1_0) = ji8 := hji8
   have H' := zMk H
   clear H
   have hcz9_0 : w4.cell? ⟨gb102, 0, none⟩ = some (.int .i64 a1_0) := (zKc BK102.out 0).trans rfl
   have hcz9_1 : w4.cell? ⟨gb102, 1, none⟩ = some (.int .i64 a1_1) := (zKc BK102.out 1).trans rfl
   have hcz9_2 : w4.cell? ⟨gb102, 2, none⟩ = some (.int .i64 a1_2) := (zKc BK102.out 2).trans rfl
   have hfz9_0 := zKf BK102.out 0
   have hfz9_1 := zKf BK102.out 1
   have hfz9_2 := zKf BK102.out 2
   go_wp2
   go_meet
   case rel => exact ⟨_, (decide ((ji8) ≥ a0)), (by first | rfl | (simp; done) | (simp only [← hji8] <;> (first | rfl | simp)) | (simp [*]; done)), H', ⟨by first | omega | exact Nat.le_refl _⟩, ⟨by (with_reducible repeat (first | refine zKn ?_ _ | refine zKd ?_ | refine zKa ?_ _)); exact BK102.out⟩, ⟨by exact uT HB.out⟩⟩
 case rest =>
  clear HC3
  obtain ⟨kq, x5_2, rfl, HA, HJ2, BK102, HB⟩ := hcut
  rcases kq with _ | kj2
  ·exact absurd HA.out (by simp [graph_alone.j0])
  have H := HA.out
  clear HA
  simp only [graph_alone.j0] at H
  by_cases c10 : x5_2 = true
  ·subst c10
   replace H : (some 5) = some r := by rw [if_pos rfl] at H; exact H
   obtain rfl := zOi H
   go_wp2
   go_ret
   exact ⟨by first | rfl | (simp [errW_none, errW_some] <;> rfl) | (simp [*, errW_none, errW_some] <;> rfl), by exact uT HB.out⟩
  ·replace c10 := Bool.eq_false_iff.mpr c10
   subst c10
   replace H : (if a1_0 = a1_1 then (some 6) else (if a1_2 ≤ (-2147483648) then (some 8) else (if a1_2 ≥ 2147483648 then (some 8) else (some 0)))) = some r := by rw [if_neg (show ¬ (false = true) by decide)] at H; exact H
   by_cases c11 : a1_0 = a1_1
   ·rw [if_pos c11] at H
    have c11b0 : (a1_0 == a1_1) = true := beq_iff_eq.mpr c11
    have c11b1 : (a1_0 != a1_1) = false := bne_eq_false_iff_eq.mpr c11
    clear c11
    obtain rfl := zOi H
    have hcz12_0 : wc.cell? ⟨gb102, 0, none⟩ = some (.int .i64 a1_0) := (zKc BK102.out 0).trans rfl
    have hcz12_1 : wc.cell? ⟨gb102, 1, none⟩ = some (.int .i64 a1_1) := (zKc BK102.out 1).trans rfl
    have hcz12_2 : wc.cell? ⟨gb102, 2, none⟩ = some (.int .i64 a1_2) := (zKc BK102.out 2).trans rfl
    have hfz12_0 := zKf BK102.out 0
    have hfz12_1 := zKf BK102.out 1
    have hfz12_2 := zKf BK102.out 2
    go_wp2
    go_ret
    exact ⟨by first | rfl | (simp [errW_none, errW_some] <;> rfl) | (simp [*, errW_none, errW_some] <;> rfl), by exact uT HB.out⟩
   ·rw [if_neg c11] at H
    have c11b0 : (a1_0 == a1_1) = false := beq_eq_false_iff_ne.mpr c11
    have c11b1 : (a1_0 != a1_1) = true := bne_iff_ne.mpr c11
    by_cases c13 : a1_2 ≤ (-2147483648)
    ·rw [if_pos c13] at H
     have c13b0 : decide (a1_2 ≤ (-2147483648)) = true := decide_eq_true c13
     clear c13
     obtain rfl := zOi H
     have hcz14_0 : wc.cell? ⟨gb102, 0, none⟩ = some (.int .i64 a1_0) := (zKc BK102.out 0).trans rfl
     have hcz14_1 : wc.cell? ⟨gb102, 1, none⟩ = some (.int .i64 a1_1) := (zKc BK102.out 1).trans rfl
     have hcz14_2 : wc.cell? ⟨gb102, 2, none⟩ = some (.int .i64 a1_2) := (zKc BK102.out 2).trans rfl
     have hfz14_0 := zKf BK102.out 0
     have hfz14_1 := zKf BK102.out 1
     have hfz14_2 := zKf BK102.out 2
     go_wp2
     go_ret
     exact ⟨by first | rfl | (simp [errW_none, errW_some] <;> rfl) | (simp [*, errW_none, errW_some] <;> rfl), by exact uT HB.out⟩
    ·rw [if_neg c13] at H
     have c13b0 : decide (a1_2 ≤ (-2147483648)) = false := decide_eq_false c13
     clear c13
     by_cases c15 : a1_2 ≥ 2147483648
     ·rw [if_pos c15] at H
      have c15b0 : decide (2147483648 ≤ a1_2) = true := decide_eq_true c15
      clear c15
      obtain rfl := zOi H
      have hcz16_0 : wc.cell? ⟨gb102, 0, none⟩ = some (.int .i64 a1_0) := (zKc BK102.out 0).trans rfl
      have hcz16_1 : wc.cell? ⟨gb102, 1, none⟩ = some (.int .i64 a1_1) := (zKc BK102.out 1).trans rfl
      have hcz16_2 : wc.cell? ⟨gb102, 2, none⟩ = some (.int .i64 a1_2) := (zKc BK102.out 2).trans rfl
      have hfz16_0 := zKf BK102.out 0
      have hfz16_1 := zKf BK102.out 1
      have hfz16_2 := zKf BK102.out 2
      go_wp2
      go_ret
      exact ⟨by first | rfl | (simp [errW_none, errW_some] <;> rfl) | (simp [*, errW_none, errW_some] <;> rfl), by exact uT HB.out⟩
     ·rw [if_neg c15] at H
      have c15b0 : decide (2147483648 ≤ a1_2) = false := decide_eq_false c15
      clear c15
      obtain rfl := zOi H
      have hcz17_0 : wc.cell? ⟨gb102, 0, none⟩ = some (.int .i64 a1_0) := (zKc BK102.out 0).trans rfl
      have hcz17_1 : wc.cell? ⟨gb102, 1, none⟩ = some (.int .i64 a1_1) := (zKc BK102.out 1).trans rfl
      have hcz17_2 : wc.cell? ⟨gb102, 2, none⟩ = some (.int .i64 a1_2) := (zKc BK102.out 2).trans rfl
      have hfz17_0 := zKf BK102.out 0
      have hfz17_1 := zKf BK102.out 1
      have hfz17_2 := zKf BK102.out 2
      go_wp2
      go_ret
      exact ⟨by first | rfl | (simp [errW_none, errW_some] <;> rfl) | (simp [*, errW_none, errW_some] <;> rfl), by exact uT HB.out⟩


def cmp_Or_int.l0 : Nat → Int → List Int → Int → Int → Option (Int)
 | 0, _, _, _, _ => none
 | k + 1, x3, x6, x7, x8 => if x8 < x7 then (if 0 ≤ x8 then (if x8 < (x6.length : Int) then (if (rd x6 x8) = x3 then (cmp_Or_int.l0 k x3 x6 x7 (wrap64 (x8 + 1))) else (some (rd x6 x8))) else (none)) else (none)) else (some x3)
def cmp_Or_int.f (k : Nat) (l0 : List Int) : Option (Int) := cmp_Or_int.l0 k 0 l0 (l0.length : Int) 0
theorem cmp_Or_int.calls (k : Nat) (A0 : Option Addr) (c0 : Nat) (l0 : List Int) (r : Int) (w : World) (hr0 : Kd.C (Kd.int .i64) w A0 l0.length l0) (hc0 : l0.length ≤ c0) (h : cmp_Or_int.f k l0 = some r) :
  Calls Try.prog 49 #[.slice A0 l0.length c0] w fun e w' => e = .returned (.int .i64 r) ∧ Drawn0 w w' := by
 have HR0 := zMk hr0
 have HC0 := zMk hc0
 clear hr0 hc0
 have H : (cmp_Or_int.l0 k 0 l0 (l0.length : Int) 0) = some r := h
 clear h
 have H' := zMk H
 clear H
 go_enter Try.func49, Try.ntmps49
 go_wp2
 go_loopg [8] k (fun kq v8 w' => ∃ (x8_1 : Int), v8 = .int .i64 x8_1 ∧ Aside0 (cmp_Or_int.l0 kq 0 l0 (l0.length : Int) x8_1 = some r) ∧ Aside0 (kq ≤ k) ∧ Drawn0 w w')
 case atStart => exact ⟨(0), (by first | rfl | (simp; done) | (simp [*]; done)), H', ⟨Nat.le_refl _⟩, by repeat (first | exact Drawn0.refl _ | apply Drawn0.step)⟩
 clear H'
 obtain ⟨x8_1, rfl, HA, HK1, ⟨m1, rfl⟩⟩ := hrel
 rcases gk with _ | k1
 ·exact absurd HA.out (by simp [cmp_Or_int.l0])
 have H := HA.out
 clear HA
 simp only [cmp_Or_int.l0] at H
 by_cases c2 : x8_1 < (l0.length : Int)
 ·rw [if_pos c2] at H
  have c2b0 : decide (x8_1 < (l0.length : Int)) = true := decide_eq_true c2
  clear c2
  by_cases c3 : 0 ≤ x8_1
  rotate_left
  ·rw [if_neg c3] at H; exact absurd H (by simp)
  rw [if_pos c3] at H
  have c3b0 : decide (0 ≤ x8_1) = true := decide_eq_true c3
  clear c3
  by_cases c4 : x8_1 < (l0.length : Int)
  rotate_left
  ·rw [if_neg c4] at H; exact absurd H (by simp)
  rw [if_pos c4] at H
  have c4b0 : decide (x8_1 < (l0.length : Int)) = true := decide_eq_true c4
  clear c4
  by_cases c5 : (rd l0 x8_1) = 0
  ·rw [if_pos c5] at H
   have c5b0 : ((rd l0 x8_1) == 0) = true := beq_iff_eq.mpr c5
   have c5b1 : ((rd l0 x8_1) != 0) = false := bne_eq_false_iff_eq.mpr c5
   clear c5
   have H' := zMk H
   clear H
   have p103 : 0 ≤ (x8_1 : Int) := of_decide_eq_true (by assumption)
   have q103 : x8_1 < (l0.length : Int) := of_decide_eq_true (by assumption)
   obtain ⟨ad103, e103, hx103_0⟩ := zAi HR0.out x8_1 p103 q103
   cases e103
   replace p103 := eq_true p103
   replace q103 := eq_true q103
   go_wp2
   go_roundg k1
   case measure => have := HK1.out; omega
   case rel => exact ⟨(wrap64 (x8_1 + 1)), (by first | rfl | (simp; done) | (simp [*]; done)), H', ⟨by have := HK1.out; omega⟩, by repeat (first | exact Drawn0.refl _ | apply Drawn0.step)⟩
  ·rw [if_neg c5] at H
   have c5b0 : ((rd l0 x8_1) == 0) = false := beq_eq_false_iff_ne.mpr c5
   have c5b1 : ((rd l0 x8_1) != 0) = true := bne_iff_ne.mpr c5
   obtain rfl := zOi H
   have p103 : 0 ≤ (x8_1 : Int) := of_decide_eq_true (by assumption)
   have q103 : x8_1 < (l0.length : Int) := of_decide_eq_true (by assumption)
   obtain ⟨ad103, e103, hx103_0⟩ := zAi HR0.out x8_1 p103 q103
   cases e103
   replace p103 := eq_true p103
   replace q103 := eq_true q103
   go_wp2
   go_ret
   exact ⟨by first | rfl | (simp; done) | (simp [*]; done), by repeat (first | exact Drawn0.refl _ | apply Drawn0.step)⟩
 ·rw [if_neg c2] at H
  have c2b0 : decide (x8_1 < (l0.length : Int)) = false := decide_eq_false c2
  clear c2
  obtain rfl := zOi H
  go_wp2
  go_ret
  exact ⟨by first | rfl | (simp; done) | (simp [*]; done), by repeat (first | exact Drawn0.refl _ | apply Drawn0.step)⟩


def cmp_isNaN_int.f (a0 : Int) : Option (Bool) := some (a0 != a0)
theorem cmp_isNaN_int.calls (a0 : Int) (r : Bool) (w : World) (h : cmp_isNaN_int.f a0 = some r) :
    Calls Try.prog 65 #[.int .i64 a0] w fun e w' => e = .returned (.bool r) ∧ Drawn0 w w' := by
  have H : (some (a0 != a0)) = some r := h
  clear h
  obtain rfl := zOi H
  go_enter Try.func65, Try.ntmps65
  go_wp2
  go_ret
  exact ⟨by first | rfl | (simp; done) | (simp [*]; done), by repeat (first | exact Drawn0.refl _ | apply Drawn0.step)⟩


def cmp_Compare_int.f (a0 : Int) (a1 : Int) : Option (Int) := (cmp_isNaN_int.f a0).bind fun t104 => ((cmp_isNaN_int.f a1).bind fun t105 => (if t104 = true then (if t105 = true then (some 0) else (some (-1))) else (if t105 = true then (some 1) else (if a0 < a1 then (some (-1)) else (if a0 > a1 then (some 1) else (some 0))))))
theorem cmp_Compare_int.calls (a0 : Int) (a1 : Int) (r : Int) (w : World) (h : cmp_Compare_int.f a0 a1 = some r) :
  Calls Try.prog 50 #[.int .i64 a0, .int .i64 a1] w fun e w' => e = .returned (.int .i64 r) ∧ Drawn0 w w' := by
 have H : ((cmp_isNaN_int.f a0).bind fun t104 => ((cmp_isNaN_int.f a1).bind fun t105 => (if t104 = true then (if t105 = true then (some 0) else (some (-1))) else (if t105 = true then (some 1) else (if a0 < a1 then (some (-1)) else (if a0 > a1 then (some 1) else (some 0))))))) = some r := h
 clear h
 replace H := bnd H
 obtain ⟨t104, A30, H⟩ := H
 have A3 := zMk A30
 clear A30
 replace H := bnd H
 obtain ⟨t105, A40, H⟩ := H
 have A4 := zMk A40
 clear A40
 by_cases c5 : t104 = true
 ·subst c5
  replace H : (if t105 = true then (some 0) else (some (-1))) = some r := by rw [if_pos rfl] at H; exact H
  by_cases c6 : t105 = true
  ·subst c6
   replace H : (some 0) = some r := by rw [if_pos rfl] at H; exact H
   obtain rfl := zOi H
   go_enter Try.func50, Try.ntmps50
   go_wp2_with (first | ((with_reducible refine gate_callee (f:=65) rfl ?_); refine goesL_ (some 8) rfl rfl Try.func65 (by kernel_rfl) rfl #[.int .i64 a0] rfl (by (try simp only [zMa, zMc, zMn]); first | done | rfl | (simp only [zLd, zLt]; rfl)) ?_; (with_reducible refine (cmp_isNaN_int.calls a0 true _ A3.out).mono ?_); rintro e w' ⟨rfl, ⟨nd, rfl⟩⟩; refine ⟨_, rfl, ?_⟩) | ((with_reducible refine gate_callee (f:=65) rfl ?_); refine goesL_ (some 10) rfl rfl Try.func65 (by kernel_rfl) rfl #[.int .i64 a1] rfl (by (try simp only [zMa, zMc, zMn]); first | done | rfl | (simp only [zLd, zLt]; rfl)) ?_; (with_reducible refine (cmp_isNaN_int.calls a1 true _ A4.out).mono ?_); rintro e w' ⟨rfl, ⟨nd, rfl⟩⟩; refine ⟨_, rfl, ?_⟩))
   go_ret
   exact ⟨by first | rfl | (simp; done) | (simp [*]; done), by repeat (first | exact Drawn0.refl _ | apply Drawn0.step)⟩
  ·replace c6 := Bool.eq_false_iff.mpr c6
   subst c6
   replace H : (some (-1)) = some r := by rw [if_neg (show ¬ (false = true) by decide)] at H; exact H
   obtain rfl := zOi H
   go_enter Try.func50, Try.ntmps50
   go_wp2_with (first | ((with_reducible refine gate_callee (f:=65) rfl ?_); refine goesL_ (some 8) rfl rfl Try.func65 (by kernel_rfl) rfl #[.int .i64 a0] rfl (by (try simp only [zMa, zMc, zMn]); first | done | rfl | (simp only [zLd, zLt]; rfl)) ?_; (with_reducible refine (cmp_isNaN_int.calls a0 true _ A3.out).mono ?_); rintro e w' ⟨rfl, ⟨nd, rfl⟩⟩; refine ⟨_, rfl, ?_⟩) | ((with_reducible refine gate_callee (f:=65) rfl ?_); refine goesL_ (some 10) rfl rfl Try.func65 (by kernel_rfl) rfl #[.int .i64 a1] rfl (by (try simp only [zMa, zMc, zMn]); first | done | rfl | (simp only [zLd, zLt]; rfl)) ?_; (with_reducible refine (cmp_isNaN_int.calls a1 false _ A4.out).mono ?_); rintro e w' ⟨rfl, ⟨nd, rfl⟩⟩; refine ⟨_, rfl, ?_⟩))
   go_ret
   exact ⟨by first | rfl | (simp; done) | (simp [*]; done), by repeat (first | exact Drawn0.refl _ | apply Drawn0.step)⟩
 ·replace c5 := Bool.eq_false_iff.mpr c5
  subst c5
  replace H : (if t105 = true then (some 1) else (if a0 < a1 then (some (-1)) else (if a0 > a1 then (some 1) else (some 0)))) = some r := by rw [if_neg (show ¬ (false = true) by decide)] at H; exact H
  by_cases c7 : t105 = true
  ·subst c7
   replace H : (some 1) = some r := by rw [if_pos rfl] at H; exact H
   obtain rfl := zOi H
   go_enter Try.func50, Try.ntmps50
   go_wp2_with (first | ((with_reducible refine gate_callee (f:=65) rfl ?_); refine goesL_ (some 8) rfl rfl Try.func65 (by kernel_rfl) rfl #[.int .i64 a0] rfl (by (try simp only [zMa, zMc, zMn]); first | done | rfl | (simp only [zLd, zLt]; rfl)) ?_; (with_reducible refine (cmp_isNaN_int.calls a0 false _ A3.out).mono ?_); rintro e w' ⟨rfl, ⟨nd, rfl⟩⟩; refine ⟨_, rfl, ?_⟩) | ((with_reducible refine gate_callee (f:=65) rfl ?_); refine goesL_ (some 10) rfl rfl Try.func65 (by kernel_rfl) rfl #[.int .i64 a1] rfl (by (try simp only [zMa, zMc, zMn]); first | done | rfl | (simp only [zLd, zLt]; rfl)) ?_; (with_reducible refine (cmp_isNaN_int.calls a1 true _ A4.out).mono ?_); rintro e w' ⟨rfl, ⟨nd, rfl⟩⟩; refine ⟨_, rfl, ?_⟩))
   go_ret
   exact ⟨by first | rfl | (simp; done) | (simp [*]; done), by repeat (first | exact Drawn0.refl _ | apply Drawn0.step)⟩
  ·replace c7 := Bool.eq_false_iff.mpr c7
   subst c7
   replace H : (if a0 < a1 then (some (-1)) else (if a0 > a1 then (some 1) else (some 0))) = some r := by rw [if_neg (show ¬ (false = true) by decide)] at H; exact H
   by_cases c8 : a0 < a1
   ·rw [if_pos c8] at H
    have c8b0 : decide (a0 < a1) = true := decide_eq_true c8
    clear c8
    obtain rfl := zOi H
    go_enter Try.func50, Try.ntmps50
    go_wp2_with (first | ((with_reducible refine gate_callee (f:=65) rfl ?_); refine goesL_ (some 8) rfl rfl Try.func65 (by kernel_rfl) rfl #[.int .i64 a0] rfl (by (try simp only [zMa, zMc, zMn]); first | done | rfl | (simp only [zLd, zLt]; rfl)) ?_; (with_reducible refine (cmp_isNaN_int.calls a0 false _ A3.out).mono ?_); rintro e w' ⟨rfl, ⟨nd, rfl⟩⟩; refine ⟨_, rfl, ?_⟩) | ((with_reducible refine gate_callee (f:=65) rfl ?_); refine goesL_ (some 10) rfl rfl Try.func65 (by kernel_rfl) rfl #[.int .i64 a1] rfl (by (try simp only [zMa, zMc, zMn]); first | done | rfl | (simp only [zLd, zLt]; rfl)) ?_; (with_reducible refine (cmp_isNaN_int.calls a1 false _ A4.out).mono ?_); rintro e w' ⟨rfl, ⟨nd, rfl⟩⟩; refine ⟨_, rfl, ?_⟩))
    go_ret
    exact ⟨by first | rfl | (simp; done) | (simp [*]; done), by repeat (first | exact Drawn0.refl _ | apply Drawn0.step)⟩
   ·rw [if_neg c8] at H
    have c8b0 : decide (a0 < a1) = false := decide_eq_false c8
    clear c8
    by_cases c9 : a0 > a1
    ·rw [if_pos c9] at H
     have c9b0 : decide (a1 < a0) = true := decide_eq_true c9
     clear c9
     obtain rfl := zOi H
     go_enter Try.func50, Try.ntmps50
     go_wp2_with (first | ((with_reducible refine gate_callee (f:=65) rfl ?_); refine goesL_ (some 8) rfl rfl Try.func65 (by kernel_rfl) rfl #[.int .i64 a0] rfl (by (try simp only [zMa, zMc, zMn]); first | done | rfl | (simp only [zLd, zLt]; rfl)) ?_; (with_reducible refine (cmp_isNaN_int.calls a0 false _ A3.out).mono ?_); rintro e w' ⟨rfl, ⟨nd, rfl⟩⟩; refine ⟨_, rfl, ?_⟩) | ((with_reducible refine gate_callee (f:=65) rfl ?_); refine goesL_ (some 10) rfl rfl Try.func65 (by kernel_rfl) rfl #[.int .i64 a1] rfl (by (try simp only [zMa, zMc, zMn]); first | done | rfl | (simp only [zLd, zLt]; rfl)) ?_; (with_reducible refine (cmp_isNaN_int.calls a1 false _ A4.out).mono ?_); rintro e w' ⟨rfl, ⟨nd, rfl⟩⟩; refine ⟨_, rfl, ?_⟩))
     go_ret
     exact ⟨by first | rfl | (simp; done) | (simp [*]; done), by repeat (first | exact Drawn0.refl _ | apply Drawn0.step)⟩
    ·rw [if_neg c9] at H
     have c9b0 : decide (a1 < a0) = false := decide_eq_false c9
     clear c9
     obtain rfl := zOi H
     go_enter Try.func50, Try.ntmps50
     go_wp2_with (first | ((with_reducible refine gate_callee (f:=65) rfl ?_); refine goesL_ (some 8) rfl rfl Try.func65 (by kernel_rfl) rfl #[.int .i64 a0] rfl (by (try simp only [zMa, zMc, zMn]); first | done | rfl | (simp only [zLd, zLt]; rfl)) ?_; (with_reducible refine (cmp_isNaN_int.calls a0 false _ A3.out).mono ?_); rintro e w' ⟨rfl, ⟨nd, rfl⟩⟩; refine ⟨_, rfl, ?_⟩) | ((with_reducible refine gate_callee (f:=65) rfl ?_); refine goesL_ (some 10) rfl rfl Try.func65 (by kernel_rfl) rfl #[.int .i64 a1] rfl (by (try simp only [zMa, zMc, zMn]); first | done | rfl | (simp only [zLd, zLt]; rfl)) ?_; (with_reducible refine (cmp_isNaN_int.calls a1 false _ A4.out).mono ?_); rintro e w' ⟨rfl, ⟨nd, rfl⟩⟩; refine ⟨_, rfl, ?_⟩))
     go_ret
     exact ⟨by first | rfl | (simp; done) | (simp [*]; done), by repeat (first | exact Drawn0.refl _ | apply Drawn0.step)⟩


def graph_order.f (k : Nat) (a0_0 : Int) (a0_1 : Int) (a0_2 : Int) (a1_0 : Int) (a1_1 : Int) (a1_2 : Int) : Option (Int) := (cmp_Compare_int.f a0_0 a1_0).bind fun t108 => ((cmp_Compare_int.f a0_1 a1_1).bind fun t109 => ((cmp_Or_int.f k (([t108, t109] : List Int))).bind fun t113 => (some t113)))
def graph_order.T1 : Bool × List (List Nat × List Nat) := (true, [([], []), ([0], [0]), ([], []), ([2], [2]), ([1, 3], [1, 3]), ([], []), ([5], [5]), ([], []), ([7], [7]), ([6, 8, 4], [6, 8]), ([4, 9], [4, 9]), ([10, 9], [10]), ([11, 11, 0, 1, 2, 3, 4, 5, 6, 7, 8, 9, 10, 11], [11])])
def graph_order.B1 : List Nat := [0, 1, 0, 4, 15, 0, 32, 0, 128, 511, 1023, 2047, 4095]
theorem graph_order.tab1 : rtab .any (opsOf Try.f42 1) = graph_order.T1 := by kernel_rfl
theorem graph_order.bits1 : waitsOk graph_order.T1.2 graph_order.B1 = true := by kernel_rfl
theorem graph_order.calls (k : Nat) (a0_0 : Int) (a0_1 : Int) (a0_2 : Int) (a1_0 : Int) (a1_1 : Int) (a1_2 : Int) (r : Int) (w : World) (h : graph_order.f k a0_0 a0_1 a0_2 a1_0 a1_1 a1_2 = some r) :
  Calls Try.prog 42 #[.agg #[.int .i64 a0_0, .int .i64 a0_1, .int .i64 a0_2], .agg #[.int .i64 a1_0, .int .i64 a1_1, .int .i64 a1_2]] w fun e w' => e = .returned (.int .i64 r) ∧ Below w.heap.size w w' := by
 have hu43 := Try.underlying43
 have HB := zMk (Below.refl w.heap.size w)
 have H : ((cmp_Compare_int.f a0_0 a1_0).bind fun t108 => ((cmp_Compare_int.f a0_1 a1_1).bind fun t109 => ((cmp_Or_int.f k (([t108, t109] : List Int))).bind fun t113 => (some t113)))) = some r := h
 clear h
 replace H := bnd H
 obtain ⟨t108, A30, H⟩ := H
 have A3 := zMk A30
 clear A30
 replace H := bnd H
 obtain ⟨t109, A40, H⟩ := H
 have A4 := zMk A40
 clear A40
 obtain ⟨y110, hy110⟩ : ∃ y_ : List Int, y_ = (([t108, t109] : List Int)) := ⟨_, rfl⟩
 replace H : ((cmp_Or_int.f k y110).bind fun t113 => (some t113)) = some r := by first | (rw [hy110]; with_reducible exact H) | (have H2_ := bsm H; first | (rw [hy110]; with_reducible exact H2_) | with_reducible exact H2_) | with_reducible exact H | (rw [hy110]; exact H) | exact H
 have Ny110 := zMk hy110
 clear hy110
 replace H := bnd H
 obtain ⟨t113, A50, H⟩ := H
 have A5 := zMk A50
 clear A50
 obtain rfl := zOi H
 go_enter Try.func42, Try.ntmps42
 try go_wp2_with (first | ((with_reducible refine gate_dst (N:=2) rfl ?_); refine box_event ?hg (N:=2) ?hd (cs:=#[.int .i64 a0_0, .int .i64 a0_1, .int .i64 a0_2]) (t:=43) ?hr ?_; (case hd => rfl); (case hg => rfl); (case hr => first | (go_simp; done)|(go_simp; rfl)|(go_simp; rw [show ∀ x : Int, IntKind.u32.wrap (IntKind.u8.wrap x) = x % 256 from fun x => (by show (x % 256) % 4294967296 = x % 256; omega)])); intro gb106 hg w6 hbox hb; have BK106 := zMk (hbox); have GW106 := zMk ((by rw [hg]; exact (zBs (by exact uT HB.out)) : w.heap.size ≤ gb106)); have GE106 := zMk ((by rw [hg]; exact (zBs (by exact uT HB.out)) : w.heap.size ≤ gb106)); have IGE106 := ownGe GE106.out; replace HB := zMk (zBt (by exact uT HB.out) hb); clear hb hbox hg)|((with_reducible refine gate_dst (N:=3) rfl ?_); refine box_event ?hg (N:=3) ?hd (cs:=#[.int .i64 a1_0, .int .i64 a1_1, .int .i64 a1_2]) (t:=43) ?hr ?_; (case hd => rfl); (case hg => rfl); (case hr => first | (go_simp; done)|(go_simp; rfl)|(go_simp; rw [show ∀ x : Int, IntKind.u32.wrap (IntKind.u8.wrap x) = x % 256 from fun x => (by show (x % 256) % 4294967296 = x % 256; omega)])); intro gb107 hg w7 hbox hb; have BK107 := zMk (hbox); have GW107 := zMk ((by rw [hg]; exact (zBs (by exact uT HB.out)) : w.heap.size ≤ gb107)); have GE107 := zMk ((by rw [hg]; exact (zBs (by exact uT HB.out)) : w.heap.size ≤ gb107)); have IGE107 := ownGe GE107.out; replace HB := zMk (zBt (by exact uT HB.out) hb); have NB106_107 := zMk ((by rw [hg]; exact Nat.ne_of_lt (blk_lt (g:=gb106) (o:=.cells #[.int .i64 a0_0, .int .i64 a0_1, .int .i64 a0_2] 43 (0, 0)) (by (with_reducible repeat (first |  refine zKn ?_ _|  refine zKd ?_|  refine zKa ?_ _)); exact BK106.out)) : gb106 ≠ gb107)); have NB107_106 := zMk ((by rw [hg]; exact Nat.ne_of_gt (blk_lt (g:=gb106) (o:=.cells #[.int .i64 a0_0, .int .i64 a0_1, .int .i64 a0_2] 43 (0, 0)) (by (with_reducible repeat (first |  refine zKn ?_ _|  refine zKd ?_|  refine zKa ?_ _)); exact BK106.out)) : gb107 ≠ gb106)); replace BK106 := zMk (zKb (g:=gb106) (o:=.cells #[.int .i64 a0_0, .int .i64 a0_1, .int .i64 a0_2] 43 (0, 0)) (by (with_reducible repeat (first |  refine zKn ?_ _|  refine zKd ?_|  refine zKa ?_ _)); exact BK106.out) hb); clear hb hbox hg))
 replace BK106 := zMk (zKd BK106.out)
 replace BK107 := zMk (zKd BK107.out)
 replace HB := zMk (zBd HB.out)
 refine start_ (n:=13) (S:=fun w' => w'.cell? ⟨gb106, 0, none⟩ = some (.int .i64 a0_0) ∧ w'.cell? ⟨gb106, 1, none⟩ = some (.int .i64 a0_1) ∧ w'.cell? ⟨gb106, 2, none⟩ = some (.int .i64 a0_2) ∧ w'.cell? ⟨gb107, 0, none⟩ = some (.int .i64 a1_0) ∧ w'.cell? ⟨gb107, 1, none⟩ = some (.int .i64 a1_1) ∧ w'.cell? ⟨gb107, 2, none⟩ = some (.int .i64 a1_2)) (ds:=[]) #[false,false,false,false,false,false,false,false,false,false,false,false,false] (by kernel_rfl) rfl rfl ⟨(zKc BK106.out 0).trans rfl, (zKc BK106.out 1).trans rfl, (zKc BK106.out 2).trans rfl, (zKc BK107.out 0).trans rfl, (zKc BK107.out 1).trans rfl, (zKc BK107.out 2).trans rfl⟩ (fun hHeld => ?_); refine with_tabW graph_order.tab1 graph_order.bits1 (fun HT_ HW_ => ?_)
 generalize w7.drew = w8 at BK106 BK107 HB hHeld ⊢
 refine pure_ (i:=0) (N:=some 5) (v:=?_) (a' := ?_) #[true,false,false,false,false,false,false,false,false,false,false,false,false] rfl rfl (any_of HT_.out (by kernel_rfl)) (fun _ _ _ h => h) (Or.inl ⟨by rfl, ?_⟩) ?_ ?_
 rotate_left
 ·intro w'
  go_simp
  with_reducible rfl
 rotate_left
 ·simp only [Act.put, zSa, zSb, zSc, i64_w, i32_w]
  rfl
 refine pure_ (i:=2) (N:=some 7) (v:=?_) (a' := ?_) #[true,false,true,false,false,false,false,false,false,false,false,false,false] rfl rfl (any_of HT_.out (by kernel_rfl)) (fun _ _ _ h => h) (Or.inl ⟨by rfl, ?_⟩) ?_ ?_
 rotate_left
 ·intro w'
  go_simp
  with_reducible rfl
 rotate_left
 ·simp only [Act.put, zSa, zSb, zSc, i64_w, i32_w]
  rfl
 refine pure_ (i:=5) (N:=some 10) (v:=?_) (a' := ?_) #[true,false,true,false,false,true,false,false,false,false,false,false,false] rfl rfl (any_of HT_.out (by kernel_rfl)) (fun _ _ _ h => h) (Or.inl ⟨by rfl, ?_⟩) ?_ ?_
 rotate_left
 ·intro w'
  go_simp
  with_reducible rfl
 rotate_left
 ·simp only [Act.put, zSa, zSb, zSc, i64_w, i32_w]
  rfl
 refine pure_ (i:=7) (N:=some 12) (v:=?_) (a' := ?_) #[true,false,true,false,false,true,false,true,false,false,false,false,false] rfl rfl (any_of HT_.out (by kernel_rfl)) (fun _ _ _ h => h) (Or.inl ⟨by rfl, ?_⟩) ?_ ?_
 rotate_left
 ·intro w'
  go_simp
  with_reducible rfl
 rotate_left
 ·simp only [Act.put, zSa, zSb, zSc, i64_w, i32_w]
  rfl
 refine take_ (i:=1) (N:=some 6) (v:=?_) (a' := ?_) #[true,true,true,false,false,true,false,true,false,false,false,false,false] rfl rfl (take_ofW HT_.out HW_.out (by kernel_rfl)) (fun _ _ _ h => h) (Or.inl ⟨by rfl, ?_⟩) hHeld ?_ ?_
 rotate_left
 ·rintro w' ⟨s0, s1, s2, s3, s4, s5⟩
  go_simp
  with_reducible rfl
 rotate_left
 ·simp only [Act.put, zSa, zSb, zSc, i64_w, i32_w]
  rfl
 refine take_ (i:=3) (N:=some 8) (v:=?_) (a' := ?_) #[true,true,true,true,false,true,false,true,false,false,false,false,false] rfl rfl (take_ofW HT_.out HW_.out (by kernel_rfl)) (fun _ _ _ h => h) (Or.inl ⟨by rfl, ?_⟩) hHeld ?_ ?_
 rotate_left
 ·rintro w' ⟨s0, s1, s2, s3, s4, s5⟩
  go_simp
  with_reducible rfl
 rotate_left
 ·simp only [Act.put, zSa, zSb, zSc, i64_w, i32_w]
  rfl
 refine take_ (i:=6) (N:=some 11) (v:=?_) (a' := ?_) #[true,true,true,true,false,true,true,true,false,false,false,false,false] rfl rfl (take_ofW HT_.out HW_.out (by kernel_rfl)) (fun _ _ _ h => h) (Or.inl ⟨by rfl, ?_⟩) hHeld ?_ ?_
 rotate_left
 ·rintro w' ⟨s0, s1, s2, s3, s4, s5⟩
  go_simp
  with_reducible rfl
 rotate_left
 ·simp only [Act.put, zSa, zSb, zSc, i64_w, i32_w]
  rfl
 refine take_ (i:=8) (N:=some 13) (v:=?_) (a' := ?_) #[true,true,true,true,false,true,true,true,true,false,false,false,false] rfl rfl (take_ofW HT_.out HW_.out (by kernel_rfl)) (fun _ _ _ h => h) (Or.inl ⟨by rfl, ?_⟩) hHeld ?_ ?_
 rotate_left
 ·rintro w' ⟨s0, s1, s2, s3, s4, s5⟩
  go_simp
  with_reducible rfl
 rotate_left
 ·simp only [Act.put, zSa, zSb, zSc, i64_w, i32_w]
  rfl
 refine one_ (i:=4) (N:=some 9) #[true,true,true,true,true,true,true,true,true,false,false,false,false] rfl rfl (one_of HT_.out (by kernel_rfl)) (by decide) (fun K hK => ?_)
 refine goes_ Try.func50 (by kernel_rfl) rfl #[.int .i64 a0_0, .int .i64 a1_0] (by rfl) rfl rfl (by (try simp only [zMa, zMc, zMn]); first | done | rfl | (simp only [zLd, zLt]; rfl)) ?_
 with_reducible refine (cmp_Compare_int.calls a0_0 a1_0 t108 _ A3.out).mono ?_
 rintro e w' ⟨rfl, ⟨nd, rfl⟩⟩
 refine ⟨_, rfl, ?_⟩
 refine hK.out _ _ ⟨(zKc BK106.out 0).trans rfl, (zKc BK106.out 1).trans rfl, (zKc BK106.out 2).trans rfl, (zKc BK107.out 0).trans rfl, (zKc BK107.out 1).trans rfl, (zKc BK107.out 2).trans rfl⟩ (fun hHeld => ?_)
 clear hK K
 refine norm_ (a' := ?_) ?_ ?_
 rotate_left
 ·show Act.put _ (some 9) _ = _
  simp only [Act.put, zSa, zSb, zSc, i64_w, i32_w]
  rfl
 refine one_ (i:=9) (N:=some 14) #[true,true,true,true,true,true,true,true,true,true,false,false,false] rfl rfl (one_of HT_.out (by kernel_rfl)) (by decide) (fun K hK => ?_)
 refine goes_ Try.func50 (by kernel_rfl) rfl #[.int .i64 a0_1, .int .i64 a1_1] (by rfl) rfl rfl (by (try simp only [zMa, zMc, zMn]); first | done | rfl | (simp only [zLd, zLt]; rfl)) ?_
 with_reducible refine (cmp_Compare_int.calls a0_1 a1_1 t109 _ A4.out).mono ?_
 rintro e w' ⟨rfl, ⟨nd, rfl⟩⟩
 refine ⟨_, rfl, ?_⟩
 refine hK.out _ _ ⟨(zKc BK106.out 0).trans rfl, (zKc BK106.out 1).trans rfl, (zKc BK106.out 2).trans rfl, (zKc BK107.out 0).trans rfl, (zKc BK107.out 1).trans rfl, (zKc BK107.out 2).trans rfl⟩ (fun hHeld => ?_)
 clear hK K
 refine norm_ (a' := ?_) ?_ ?_
 rotate_left
 ·show Act.put _ (some 14) _ = _
  simp only [Act.put, zSa, zSb, zSc, i64_w, i32_w]
  rfl
 refine one_ (i:=10) (N:=some 15) #[true,true,true,true,true,true,true,true,true,true,true,false,false] rfl rfl (one_of HT_.out (by kernel_rfl)) (by decide) (fun K hK => ?_)
 refine Kd.R_lit_step (Kd.int .i64) _ 3 ?hg (N:=15) ?hd (xs:=([t108, t109] : List Int)) (inner:=[.int .i64 t108, .int .i64 t109]) (ok:=fun _ => True) (okp:=fun _ => True) ?hr ?hp (fun _ hk => hk) trivial (Below.refl _ _) (Nat.le_refl _) (by simp) ?_; (case hd => rfl); (case hg => rfl); (case hr => first | (go_simp; done) | (go_simp; rfl) | (go_simp; rw [show ∀ x : Int, IntKind.u32.wrap (IntKind.u8.wrap x) = x % 256 from fun x => (by show (x % 256) % 4294967296 = x % 256; omega)])); (case hp => exact (Reps.one (show Kd.M (Kd.int .i64) _ _ _ t108 [.int .i64 t108] from rfl) (Reps.one (show Kd.M (Kd.int .i64) _ _ _ t109 [.int .i64 t109] from rfl) (Reps.none _ _))))
 intro v111 w9 ho10 hb hg_ hnew_
 clear hg_ hnew_
 (first | rw [← Ny110.out] at ho10 | (simp only [Int.reduceToNat] at ho10; rw [← Ny110.out] at ho10))
 have HO112 := zMk (zRl ho10 (zBs (by exact uT HB.out)))
 replace BK106 := zMk (zKb (g:=gb106) (o:=.cells #[.int .i64 a0_0, .int .i64 a0_1, .int .i64 a0_2] 43 (0, 0)) (by (with_reducible repeat (first | refine zKn ?_ _ | refine zKd ?_ | refine zKa ?_ _)); exact BK106.out) hb)
 replace BK107 := zMk (zKb (g:=gb107) (o:=.cells #[.int .i64 a1_0, .int .i64 a1_1, .int .i64 a1_2] 43 (0, 0)) (by (with_reducible repeat (first | refine zKn ?_ _ | refine zKd ?_ | refine zKa ?_ _)); exact BK107.out) hb)
 replace HB := zMk (zBt (by exact uT HB.out) hb)
 clear hb ho10
 obtain ⟨Ao11, co11, eo11⟩ := zRs HO112.out
 (first |  subst eo11|  (injection eo11 with f1_ f2_ f3_; have f4_ := f1_.symm; have f5_ := f3_.symm; clear f1_ f2_ f3_; subst f4_; subst f5_))
 refine hK.out _ _ ⟨(zKc BK106.out 0).trans rfl, (zKc BK106.out 1).trans rfl, (zKc BK106.out 2).trans rfl, (zKc BK107.out 0).trans rfl, (zKc BK107.out 1).trans rfl, (zKc BK107.out 2).trans rfl⟩ (fun hHeld => ?_)
 clear hK K
 refine norm_ (a' := ?_) ?_ ?_
 rotate_left
 ·show Act.put _ (some 15) _ = _
  simp only [Act.put, zSa, zSb, zSc, i64_w, i32_w]
  rfl
 refine one_ (i:=11) (N:=some 16) #[true,true,true,true,true,true,true,true,true,true,true,true,false] rfl rfl (one_of HT_.out (by kernel_rfl)) (by decide) (fun K hK => ?_)
 refine goes_ Try.func49 (by kernel_rfl) rfl #[.slice Ao11 y110.length co11] (by rfl) rfl rfl (by (try simp only [zMa, zMc, zMn]); first | done | rfl | (simp only [zLd, zLt]; rfl)) ?_
 with_reducible refine (cmp_Or_int.calls k _ _ y110 t113 _ ?side1 ?side2 A5.out).mono ?_
 (case side1 => exact uC (zRr HO112.out).2.2)
 (case side2 => exact (zRr HO112.out).2.1)
 rintro e w' ⟨rfl, ⟨nd, rfl⟩⟩
 refine ⟨_, rfl, ?_⟩
 refine hK.out _ _ ⟨(zKc BK106.out 0).trans rfl, (zKc BK106.out 1).trans rfl, (zKc BK106.out 2).trans rfl, (zKc BK107.out 0).trans rfl, (zKc BK107.out 1).trans rfl, (zKc BK107.out 2).trans rfl⟩ (fun hHeld => ?_)
 clear hK K
 refine norm_ (a' := ?_) ?_ ?_
 rotate_left
 ·show Act.put _ (some 16) _ = _
  simp only [Act.put, zSa, zSb, zSc, i64_w, i32_w]
  rfl
 refine pure_ (i:=12) (N:=some 4) (v:=?_) (a' := ?_) #[true,true,true,true,true,true,true,true,true,true,true,true,true] rfl rfl (any_of HT_.out (by kernel_rfl)) (fun _ _ _ h => h) (Or.inl ⟨by rfl, ?_⟩) ?_ ?_
 rotate_left
 ·intro w'
  go_simp
  with_reducible rfl
 rotate_left
 ·simp only [Act.put, zSa, zSb, zSc, i64_w, i32_w]
  rfl
 refine done_ (done_of HT_.out (by kernel_rfl)) ?_
 try go_wp2
 go_ret
 exact ⟨by first | rfl | (simp [errW_none, errW_some] <;> rfl) | (simp [*, errW_none, errW_some] <;> rfl), by exact uT HB.out⟩
section
open Go.Sort hiding Below
instance : Inhabited S43 := ⟨z43⟩
end

def graph_Right.l0 : Nat → List (S43) → Int → Int → Int → List (S43) → Option (Int)
 | 0, _, _, _, _, _ => none
 | k + 1, x17, x18, x19, x115000, x115001 => if x19 < x18 then (if 0 ≤ x19 then (if x19 < (x17.length : Int) then ((graph_alone.f k x115000 ((rd_T43 x17 x19).f0) ((rd_T43 x17 x19).f1) ((rd_T43 x17 x19).f2)).bind fun t118 => (if t118 = 0 then (if ((rd_T43 x17 x19).f0) > ((rd_T43 x17 x19).f1) then (some 1) else (if x19 = 0 then (graph_Right.l0 k x17 x18 (wrap64 (x19 + 1)) x115000 x115001) else (if 0 ≤ (wrap64 (x19 - 1)) then (if (wrap64 (x19 - 1)) < (x115001.length : Int) then ((graph_order.f k ((rd_T43 x115001 (wrap64 (x19 - 1))).f0) ((rd_T43 x115001 (wrap64 (x19 - 1))).f1) ((rd_T43 x115001 (wrap64 (x19 - 1))).f2) ((rd_T43 x17 x19).f0) ((rd_T43 x17 x19).f1) ((rd_T43 x17 x19).f2)).bind fun t120 => (if t120 = 0 then (some 7) else (if t120 = 1 then (some 1) else (graph_Right.l0 k x17 x18 (wrap64 (x19 + 1)) x115000 x115001)))) else (none)) else (none)))) else (some t118))) else (none)) else (none)) else (some 0)
def graph_Right.f (k : Nat) (a0_0 : Int) (l0_1 : List (S43)) : Option (Int) := (graph_sizes.f a0_0 (l0_1.length : Int)).bind fun t115 => (if t115 = 0 then (graph_Right.l0 k l0_1 (l0_1.length : Int) 0 a0_0 l0_1) else (some t115))
def graph_Right.T13 : Bool × List (List Nat × List Nat) := (true, [([], []), ([0], [0]), ([], []), ([2], [2]), ([1, 3], [1, 3]), ([4], [4]), ([], []), ([5, 6], [5, 6])])
def graph_Right.B13 : List Nat := [0, 1, 0, 4, 15, 31, 0, 127]
theorem graph_Right.tab13 : rtab .any (opsOf Try.f27 13) = graph_Right.T13 := by kernel_rfl
theorem graph_Right.bits13 : waitsOk graph_Right.T13.2 graph_Right.B13 = true := by kernel_rfl
theorem graph_Right.calls (k : Nat) (a0_0 : Int) (A0_1 : Option Addr) (c0_1 : Nat) (l0_1 : List (S43)) (r : Int) (w : World) (hr0_1 : Kd.C k43 w A0_1 l0_1.length l0_1) (hc0_1 : l0_1.length ≤ c0_1) (h : graph_Right.f k a0_0 l0_1 = some r) :
  Calls Try.prog 27 #[.agg #[.int .i64 a0_0, .slice A0_1 l0_1.length c0_1]] w fun e w' => e = .returned (.int .i64 r) ∧ Below w.heap.size w w' := by
 have hu24 := Try.underlying24
 have hu43 := Try.underlying43
 have HR0_1 := zMk hr0_1
 have HC0_1 := zMk hc0_1
 clear hr0_1 hc0_1
 have HB := zMk (Below.refl w.heap.size w)
 have H : ((graph_sizes.f a0_0 (l0_1.length : Int)).bind fun t115 => (if t115 = 0 then (graph_Right.l0 k l0_1 (l0_1.length : Int) 0 a0_0 l0_1) else (some t115))) = some r := h
 clear h
 replace H := bnd H
 obtain ⟨t115, A20, H⟩ := H
 have A2 := zMk A20
 clear A20
 by_cases c3 : t115 = 0
 ·rw [if_pos c3] at H
  have c3b0 : (t115 == 0) = true := beq_iff_eq.mpr c3
  have c3b1 : (t115 != 0) = false := bne_eq_false_iff_eq.mpr c3
  clear c3
  have H' := zMk H
  clear H
  go_enter Try.func27, Try.ntmps27
  go_wp2_with (first | ((with_reducible refine gate_dst (N:=1) rfl ?_); refine box_event ?hg (N:=1) ?hd (cs:=#[.int .i64 a0_0, .slice A0_1 l0_1.length c0_1]) (t:=24) ?hr ?_; (case hd => rfl); (case hg => rfl); (case hr => first | (go_simp; done)|(go_simp; rfl)|(go_simp; rw [show ∀ x : Int, IntKind.u32.wrap (IntKind.u8.wrap x) = x % 256 from fun x => (by show (x % 256) % 4294967296 = x % 256; omega)])); intro gb114 hg w4 hbox hb; have BK114 := zMk (hbox); have GW114 := zMk ((by rw [hg]; exact (zBs (uT HB.out)) : w.heap.size ≤ gb114)); have GE114 := zMk ((by rw [hg]; exact (zBs (uT HB.out)) : w.heap.size ≤ gb114)); have IGE114 := ownGe GE114.out; replace HB := zMk (zBt (uT HB.out) hb); clear hb hbox hg; have hcz5_0 : w4.cell? ⟨gb114, 0, none⟩ = some (.int .i64 a0_0) := (zKc BK114.out 0).trans rfl; have hcz5_1 : w4.cell? ⟨gb114, 1, none⟩ = some (.slice A0_1 l0_1.length c0_1) := (zKc BK114.out 1).trans rfl; have hfz5_0 := zKf BK114.out 0; have hfz5_1 := zKf BK114.out 1)|((with_reducible refine gate_callee (f:=40) rfl ?_); refine goesL_ (some 12) rfl rfl Try.func40 (by kernel_rfl) rfl #[.int .i64 a0_0, .int .i64 (l0_1.length : Int)] rfl (by (try simp only [zMa, zMc, zMn]); first |  done|  rfl|  (simp only [zLd, zLt]; rfl)) ?_; (with_reducible refine (graph_sizes.calls a0_0 (l0_1.length : Int) t115 _ A2.out).mono ?_); rintro e w' ⟨rfl, ⟨nd, rfl⟩⟩; refine ⟨_, rfl, ?_⟩))
  go_loopg [19] k (fun kq v19 w' => ∃ (x19_1 : Int), v19 = .int .i64 x19_1 ∧ Aside0 (graph_Right.l0 kq l0_1 (l0_1.length : Int) x19_1 a0_0 l0_1 = some r) ∧ Aside0 (kq ≤ k) ∧ Aside0 (w'.heap[gb114]? = some (.cells #[.int .i64 a0_0, (.slice A0_1 l0_1.length c0_1)] 24 (0, 0))) ∧ Aside0 (Below w.heap.size w w'))
  case atStart => exact ⟨(0), (by first | rfl | (simp; done) | (simp [*]; done)), H', ⟨Nat.le_refl _⟩, ⟨by (with_reducible repeat (first | refine zKn ?_ _ | refine zKd ?_ | refine zKa ?_ _)); exact BK114.out⟩, ⟨by exact uT HB.out⟩⟩
  clear H'
  obtain ⟨x19_1, rfl, HA, HK1, BK114, HB⟩ := hrel
  rcases gk with _ | k1
  ·exact absurd HA.out (by simp [graph_Right.l0])
  have H := HA.out
  clear HA
  simp only [graph_Right.l0] at H
  by_cases c6 : x19_1 < (l0_1.length : Int)
  ·rw [if_pos c6] at H
   have c6b0 : decide (x19_1 < (l0_1.length : Int)) = true := decide_eq_true c6
   clear c6
   by_cases c7 : 0 ≤ x19_1
   rotate_left
   ·rw [if_neg c7] at H; exact absurd H (by simp)
   rw [if_pos c7] at H
   have c7b0 : decide (0 ≤ x19_1) = true := decide_eq_true c7
   clear c7
   by_cases c8 : x19_1 < (l0_1.length : Int)
   rotate_left
   ·rw [if_neg c8] at H; exact absurd H (by simp)
   rw [if_pos c8] at H
   have c8b0 : decide (x19_1 < (l0_1.length : Int)) = true := decide_eq_true c8
   clear c8
   replace H := bnd H
   obtain ⟨t118, A90, H⟩ := H
   have A9 := zMk A90
   clear A90
   by_cases c10 : t118 = 0
   ·rw [if_pos c10] at H
    have c10b0 : (t118 == 0) = true := beq_iff_eq.mpr c10
    have c10b1 : (t118 != 0) = false := bne_eq_false_iff_eq.mpr c10
    clear c10
    by_cases c11 : ((rd_T43 l0_1 x19_1).f0) > ((rd_T43 l0_1 x19_1).f1)
    ·rw [if_pos c11] at H
     have c11b0 : decide (((rd_T43 l0_1 x19_1).f1) < ((rd_T43 l0_1 x19_1).f0)) = true := decide_eq_true c11
     clear c11
     obtain rfl := zOi H
     have p116 : 0 ≤ (x19_1 : Int) := of_decide_eq_true (by assumption)
     have q116 : x19_1 < (l0_1.length : Int) := of_decide_eq_true (by assumption)
     obtain ⟨ad116, e116, hx116_0, hx116_1, hx116_2⟩ := at_T43 HR0_1.out x19_1 p116 q116
     cases e116
     replace hx116_0 := pw_cell_below HB.out hx116_0
     replace hx116_1 := pw_cell_below HB.out hx116_1
     replace hx116_2 := pw_cell_below HB.out hx116_2
     replace p116 := eq_true p116
     replace q116 := eq_true q116
     go_wp2_with (first | ((with_reducible refine gate_dst (N:=5) rfl ?_); refine box_event ?hg (N:=5) ?hd (cs:=#[.int .i64 0, .int .i64 0, .int .i64 0]) (t:=43) ?hr ?_; (case hd => rfl); (case hg => rfl); (case hr => first | (go_simp; done)|(go_simp; rfl)|(go_simp; rw [show ∀ x : Int, IntKind.u32.wrap (IntKind.u8.wrap x) = x % 256 from fun x => (by show (x % 256) % 4294967296 = x % 256; omega)])); intro gb117 hg w12 hbox hb; have BK117 := zMk (hbox); have GW117 := zMk ((by rw [hg]; exact (zBs (uT HB.out)) : w.heap.size ≤ gb117)); have GE117 := zMk ((by rw [hg]; exact (zBs (uT HB.out)) : w.heap.size ≤ gb117)); have IGE117 := ownGe GE117.out; replace HB := zMk (zBt (uT HB.out) hb); have NB114_117 := zMk ((by rw [hg]; exact Nat.ne_of_lt (blk_lt BK114.out) : gb114 ≠ gb117)); have NB117_114 := zMk ((by rw [hg]; exact Nat.ne_of_gt (blk_lt BK114.out) : gb117 ≠ gb114)); replace BK114 := zMk (zKb BK114.out hb); clear hb hbox hg; have hnb13 := NB117_114.out; have hnc13 := NB114_117.out; have hcz14_0 : w12.cell? ⟨gb117, 0, none⟩ = some (.int .i64 0) := (zKc BK117.out 0).trans rfl; have hcz14_1 : w12.cell? ⟨gb117, 1, none⟩ = some (.int .i64 0) := (zKc BK117.out 1).trans rfl; have hcz14_2 : w12.cell? ⟨gb117, 2, none⟩ = some (.int .i64 0) := (zKc BK117.out 2).trans rfl; have hfz14_0 := zKf BK117.out 0; have hfz14_1 := zKf BK117.out 1; have hfz14_2 := zKf BK117.out 2; have hcz15_0 : w12.cell? ⟨gb114, 0, none⟩ = some (.int .i64 a0_0) := (zKc BK114.out 0).trans rfl; have hcz15_1 : w12.cell? ⟨gb114, 1, none⟩ = some (.slice (some ad116) l0_1.length c0_1) := (zKc BK114.out 1).trans rfl; have hfz15_0 := zKf BK114.out 0; have hfz15_1 := zKf BK114.out 1)|((with_reducible refine gate_callee (f:=41) rfl ?_); refine goesL_ (some 27) rfl rfl Try.func41 (by kernel_rfl) rfl #[.int .i64 a0_0, .agg #[.int .i64 ((rd_T43 l0_1 x19_1).f0), .int .i64 ((rd_T43 l0_1 x19_1).f1), .int .i64 ((rd_T43 l0_1 x19_1).f2)]] rfl (by (try simp only [zMa, zMc, zMn]); first |  done|  rfl|  (simp only [zLd, zLt]; rfl)) ?_; (with_reducible refine (graph_alone.calls k1 a0_0 ((rd_T43 l0_1 x19_1).f0) ((rd_T43 l0_1 x19_1).f1) ((rd_T43 l0_1 x19_1).f2) t118 _ A9.out).mono ?_); rintro e w16 ⟨rfl, hb⟩; refine ⟨_, rfl, ?_⟩; replace BK114 := zMk (zKb (g:=gb114) (o:=.cells #[.int .i64 a0_0, .slice (some ad116) l0_1.length c0_1] 24 (0, 0)) (by (with_reducible repeat (first |  refine zKn ?_ _|  refine zKd ?_|  refine zKa ?_ _)); refine blk_far ?_ NB114_117.out _; (with_reducible repeat (first |  refine zKn ?_ _|  refine zKd ?_|  refine zKa ?_ _)); refine blk_far ?_ NB114_117.out _; (with_reducible repeat (first |  refine zKn ?_ _|  refine zKd ?_|  refine zKa ?_ _)); refine blk_far ?_ NB114_117.out _; (with_reducible repeat (first |  refine zKn ?_ _|  refine zKd ?_|  refine zKa ?_ _)); exact BK114.out) hb); replace BK117 := zMk (zKb (g:=gb117) (o:=.cells #[.int .i64 ((rd_T43 l0_1 x19_1).f0), .int .i64 ((rd_T43 l0_1 x19_1).f1), .int .i64 ((rd_T43 l0_1 x19_1).f2)] 43 (0, 0)) (by (with_reducible repeat (first |  refine zKn ?_ _|  refine zKd ?_|  refine zKa ?_ _)); refine blk_put (cs:=#[.int .i64 ((rd_T43 l0_1 x19_1).f0), .int .i64 ((rd_T43 l0_1 x19_1).f1), .int .i64 0]) ?_ 2 _ rfl; (with_reducible repeat (first |  refine zKn ?_ _|  refine zKd ?_|  refine zKa ?_ _)); refine blk_put (cs:=#[.int .i64 ((rd_T43 l0_1 x19_1).f0), .int .i64 0, .int .i64 0]) ?_ 1 _ rfl; (with_reducible repeat (first |  refine zKn ?_ _|  refine zKd ?_|  refine zKa ?_ _)); refine blk_put (cs:=#[.int .i64 0, .int .i64 0, .int .i64 0]) ?_ 0 _ rfl; (with_reducible repeat (first |  refine zKn ?_ _|  refine zKd ?_|  refine zKa ?_ _)); exact BK117.out) hb); replace HB := zMk (zBt (uT HB.out) hb); have hcz17_0 : w16.cell? ⟨gb117, 0, none⟩ = some (.int .i64 ((rd_T43 l0_1 x19_1).f0)) := (zKc BK117.out 0).trans rfl; have hcz17_1 : w16.cell? ⟨gb117, 1, none⟩ = some (.int .i64 ((rd_T43 l0_1 x19_1).f1)) := (zKc BK117.out 1).trans rfl; have hcz17_2 : w16.cell? ⟨gb117, 2, none⟩ = some (.int .i64 ((rd_T43 l0_1 x19_1).f2)) := (zKc BK117.out 2).trans rfl; have hfz17_0 := zKf BK117.out 0; have hfz17_1 := zKf BK117.out 1; have hfz17_2 := zKf BK117.out 2))
     go_ret
     exact ⟨by first | rfl | (simp [errW_none, errW_some] <;> rfl) | (simp [*, errW_none, errW_some] <;> rfl), by exact uT HB.out⟩
    ·rw [if_neg c11] at H
     have c11b0 : decide (((rd_T43 l0_1 x19_1).f1) < ((rd_T43 l0_1 x19_1).f0)) = false := decide_eq_false c11
     clear c11
     by_cases c18 : x19_1 = 0
     ·rw [if_pos c18] at H
      have c18b0 : (x19_1 == 0) = true := beq_iff_eq.mpr c18
      have c18b1 : (x19_1 != 0) = false := bne_eq_false_iff_eq.mpr c18
      clear c18
      have H' := zMk H
      clear H
      have p116 : 0 ≤ (x19_1 : Int) := of_decide_eq_true (by assumption)
      have q116 : x19_1 < (l0_1.length : Int) := of_decide_eq_true (by assumption)
      obtain ⟨ad116, e116, hx116_0, hx116_1, hx116_2⟩ := at_T43 HR0_1.out x19_1 p116 q116
      cases e116
      replace hx116_0 := pw_cell_below HB.out hx116_0
      replace hx116_1 := pw_cell_below HB.out hx116_1
      replace hx116_2 := pw_cell_below HB.out hx116_2
      replace p116 := eq_true p116
      replace q116 := eq_true q116
      go_wp2_with (first | ((with_reducible refine gate_dst (N:=5) rfl ?_); refine box_event ?hg (N:=5) ?hd (cs:=#[.int .i64 0, .int .i64 0, .int .i64 0]) (t:=43) ?hr ?_; (case hd => rfl); (case hg => rfl); (case hr => first | (go_simp; done)|(go_simp; rfl)|(go_simp; rw [show ∀ x : Int, IntKind.u32.wrap (IntKind.u8.wrap x) = x % 256 from fun x => (by show (x % 256) % 4294967296 = x % 256; omega)])); intro gb117 hg w19 hbox hb; have BK117 := zMk (hbox); have GW117 := zMk ((by rw [hg]; exact (zBs (uT HB.out)) : w.heap.size ≤ gb117)); have GE117 := zMk ((by rw [hg]; exact (zBs (uT HB.out)) : w.heap.size ≤ gb117)); have IGE117 := ownGe GE117.out; replace HB := zMk (zBt (uT HB.out) hb); have NB114_117 := zMk ((by rw [hg]; exact Nat.ne_of_lt (blk_lt BK114.out) : gb114 ≠ gb117)); have NB117_114 := zMk ((by rw [hg]; exact Nat.ne_of_gt (blk_lt BK114.out) : gb117 ≠ gb114)); replace BK114 := zMk (zKb BK114.out hb); clear hb hbox hg; have hnb20 := NB117_114.out; have hnc20 := NB114_117.out; have hcz21_0 : w19.cell? ⟨gb117, 0, none⟩ = some (.int .i64 0) := (zKc BK117.out 0).trans rfl; have hcz21_1 : w19.cell? ⟨gb117, 1, none⟩ = some (.int .i64 0) := (zKc BK117.out 1).trans rfl; have hcz21_2 : w19.cell? ⟨gb117, 2, none⟩ = some (.int .i64 0) := (zKc BK117.out 2).trans rfl; have hfz21_0 := zKf BK117.out 0; have hfz21_1 := zKf BK117.out 1; have hfz21_2 := zKf BK117.out 2; have hcz22_0 : w19.cell? ⟨gb114, 0, none⟩ = some (.int .i64 a0_0) := (zKc BK114.out 0).trans rfl; have hcz22_1 : w19.cell? ⟨gb114, 1, none⟩ = some (.slice (some ad116) l0_1.length c0_1) := (zKc BK114.out 1).trans rfl; have hfz22_0 := zKf BK114.out 0; have hfz22_1 := zKf BK114.out 1)|((with_reducible refine gate_callee (f:=41) rfl ?_); refine goesL_ (some 27) rfl rfl Try.func41 (by kernel_rfl) rfl #[.int .i64 a0_0, .agg #[.int .i64 ((rd_T43 l0_1 x19_1).f0), .int .i64 ((rd_T43 l0_1 x19_1).f1), .int .i64 ((rd_T43 l0_1 x19_1).f2)]] rfl (by (try simp only [zMa, zMc, zMn]); first |  done|  rfl|  (simp only [zLd, zLt]; rfl)) ?_; (with_reducible refine (graph_alone.calls k1 a0_0 ((rd_T43 l0_1 x19_1).f0) ((rd_T43 l0_1 x19_1).f1) ((rd_T43 l0_1 x19_1).f2) t118 _ A9.out).mono ?_); rintro e w23 ⟨rfl, hb⟩; refine ⟨_, rfl, ?_⟩; replace BK114 := zMk (zKb (g:=gb114) (o:=.cells #[.int .i64 a0_0, .slice (some ad116) l0_1.length c0_1] 24 (0, 0)) (by (with_reducible repeat (first |  refine zKn ?_ _|  refine zKd ?_|  refine zKa ?_ _)); refine blk_far ?_ NB114_117.out _; (with_reducible repeat (first |  refine zKn ?_ _|  refine zKd ?_|  refine zKa ?_ _)); refine blk_far ?_ NB114_117.out _; (with_reducible repeat (first |  refine zKn ?_ _|  refine zKd ?_|  refine zKa ?_ _)); refine blk_far ?_ NB114_117.out _; (with_reducible repeat (first |  refine zKn ?_ _|  refine zKd ?_|  refine zKa ?_ _)); exact BK114.out) hb); replace BK117 := zMk (zKb (g:=gb117) (o:=.cells #[.int .i64 ((rd_T43 l0_1 x19_1).f0), .int .i64 ((rd_T43 l0_1 x19_1).f1), .int .i64 ((rd_T43 l0_1 x19_1).f2)] 43 (0, 0)) (by (with_reducible repeat (first |  refine zKn ?_ _|  refine zKd ?_|  refine zKa ?_ _)); refine blk_put (cs:=#[.int .i64 ((rd_T43 l0_1 x19_1).f0), .int .i64 ((rd_T43 l0_1 x19_1).f1), .int .i64 0]) ?_ 2 _ rfl; (with_reducible repeat (first |  refine zKn ?_ _|  refine zKd ?_|  refine zKa ?_ _)); refine blk_put (cs:=#[.int .i64 ((rd_T43 l0_1 x19_1).f0), .int .i64 0, .int .i64 0]) ?_ 1 _ rfl; (with_reducible repeat (first |  refine zKn ?_ _|  refine zKd ?_|  refine zKa ?_ _)); refine blk_put (cs:=#[.int .i64 0, .int .i64 0, .int .i64 0]) ?_ 0 _ rfl; (with_reducible repeat (first |  refine zKn ?_ _|  refine zKd ?_|  refine zKa ?_ _)); exact BK117.out) hb); replace HB := zMk (zBt (uT HB.out) hb); have hcz24_0 : w23.cell? ⟨gb117, 0, none⟩ = some (.int .i64 ((rd_T43 l0_1 x19_1).f0)) := (zKc BK117.out 0).trans rfl; have hcz24_1 : w23.cell? ⟨gb117, 1, none⟩ = some (.int .i64 ((rd_T43 l0_1 x19_1).f1)) := (zKc BK117.out 1).trans rfl; have hcz24_2 : w23.cell? ⟨gb117, 2, none⟩ = some (.int .i64 ((rd_T43 l0_1 x19_1).f2)) := (zKc BK117.out 2).trans rfl; have hfz24_0 := zKf BK117.out 0; have hfz24_1 := zKf BK117.out 1; have hfz24_2 := zKf BK117.out 2))
      go_roundg k1
      case measure => have := HK1.out; omega
      case rel => exact ⟨(wrap64 (x19_1 + 1)), (by first | rfl | (simp; done) | (simp [*]; done)), H', ⟨by have := HK1.out; omega⟩, ⟨by (with_reducible repeat (first | refine zKn ?_ _ | refine zKd ?_ | refine zKa ?_ _)); exact BK114.out⟩, ⟨by exact uT HB.out⟩⟩
     ·rw [if_neg c18] at H
      have c18b0 : (x19_1 == 0) = false := beq_eq_false_iff_ne.mpr c18
      have c18b1 : (x19_1 != 0) = true := bne_iff_ne.mpr c18
      obtain ⟨ji25, hji25⟩ : ∃ j_ : Int, (wrap64 (x19_1 - 1)) = j_ := ⟨_, rfl⟩
      replace H : (if 0 ≤ (ji25) then (if (ji25) < (l0_1.length : Int) then ((graph_order.f k1 ((rd_T43 l0_1 (ji25)).f0) ((rd_T43 l0_1 (ji25)).f1) ((rd_T43 l0_1 (ji25)).f2) ((rd_T43 l0_1 x19_1).f0) ((rd_T43 l0_1 x19_1).f1) ((rd_T43 l0_1 x19_1).f2)).bind fun t120 => (if t120 = 0 then (some 7) else (if t120 = 1 then (some 1) else (graph_Right.l0 k1 l0_1 (l0_1.length : Int) (wrap64 (x19_1 + 1)) a0_0 l0_1)))) else (none)) else (none)) = some r := by first | (rw [hji25] at H; exact H) | (simp only [hji25] at H ⊢; exact H)
      (try rw [hji25] at A9)
      have hji25w : (IntKind.i64.wrap (x19_1 - 1)) = ji25 := (i64_w _).trans hji25
      by_cases c26 : 0 ≤ (ji25)
      rotate_left
      ·rw [if_neg c26] at H; exact absurd H (by simp)
      rw [if_pos c26] at H
      have c26b0 : decide (0 ≤ (ji25)) = true := decide_eq_true c26
      clear c26
      by_cases c27 : (ji25) < (l0_1.length : Int)
      rotate_left
      ·rw [if_neg c27] at H; exact absurd H (by simp)
      rw [if_pos c27] at H
      have c27b0 : decide ((ji25) < (l0_1.length : Int)) = true := decide_eq_true c27
      clear c27
      replace H := bnd H
      obtain ⟨t120, A280, H⟩ := H
      have A28 := zMk A280
      clear A280
      by_cases c29 : t120 = 0
      ·rw [if_pos c29] at H
       have c29b0 : (t120 == 0) = true := beq_iff_eq.mpr c29
       have c29b1 : (t120 != 0) = false := bne_eq_false_iff_eq.mpr c29
       clear c29
       obtain rfl := zOi H
       have p116 : 0 ≤ (x19_1 : Int) := of_decide_eq_true (by assumption)
       have q116 : x19_1 < (l0_1.length : Int) := of_decide_eq_true (by assumption)
       obtain ⟨ad116, e116, hx116_0, hx116_1, hx116_2⟩ := at_T43 HR0_1.out x19_1 p116 q116
       cases e116
       replace hx116_0 := pw_cell_below HB.out hx116_0
       replace hx116_1 := pw_cell_below HB.out hx116_1
       replace hx116_2 := pw_cell_below HB.out hx116_2
       replace p116 := eq_true p116
       replace q116 := eq_true q116
       try go_wp2_with (first | ((with_reducible refine gate_dst (N:=5) rfl ?_); refine box_event ?hg (N:=5) ?hd (cs:=#[.int .i64 0, .int .i64 0, .int .i64 0]) (t:=43) ?hr ?_; (case hd => rfl); (case hg => rfl); (case hr => first | (go_simp; done)|(go_simp; rfl)|(go_simp; rw [show ∀ x : Int, IntKind.u32.wrap (IntKind.u8.wrap x) = x % 256 from fun x => (by show (x % 256) % 4294967296 = x % 256; omega)])); intro gb117 hg w30 hbox hb; have BK117 := zMk (hbox); have GW117 := zMk ((by rw [hg]; exact (zBs (uT HB.out)) : w.heap.size ≤ gb117)); have GE117 := zMk ((by rw [hg]; exact (zBs (uT HB.out)) : w.heap.size ≤ gb117)); have IGE117 := ownGe GE117.out; replace HB := zMk (zBt (uT HB.out) hb); have NB114_117 := zMk ((by rw [hg]; exact Nat.ne_of_lt (blk_lt BK114.out) : gb114 ≠ gb117)); have NB117_114 := zMk ((by rw [hg]; exact Nat.ne_of_gt (blk_lt BK114.out) : gb117 ≠ gb114)); replace BK114 := zMk (zKb BK114.out hb); clear hb hbox hg; have hnb31 := NB117_114.out; have hnc31 := NB114_117.out; have hcz32_0 : w30.cell? ⟨gb117, 0, none⟩ = some (.int .i64 0) := (zKc BK117.out 0).trans rfl; have hcz32_1 : w30.cell? ⟨gb117, 1, none⟩ = some (.int .i64 0) := (zKc BK117.out 1).trans rfl; have hcz32_2 : w30.cell? ⟨gb117, 2, none⟩ = some (.int .i64 0) := (zKc BK117.out 2).trans rfl; have hfz32_0 := zKf BK117.out 0; have hfz32_1 := zKf BK117.out 1; have hfz32_2 := zKf BK117.out 2; have hcz33_0 : w30.cell? ⟨gb114, 0, none⟩ = some (.int .i64 a0_0) := (zKc BK114.out 0).trans rfl; have hcz33_1 : w30.cell? ⟨gb114, 1, none⟩ = some (.slice (some ad116) l0_1.length c0_1) := (zKc BK114.out 1).trans rfl; have hfz33_0 := zKf BK114.out 0; have hfz33_1 := zKf BK114.out 1)|((with_reducible refine gate_callee (f:=41) rfl ?_); refine goesL_ (some 27) rfl rfl Try.func41 (by kernel_rfl) rfl #[.int .i64 a0_0, .agg #[.int .i64 ((rd_T43 l0_1 x19_1).f0), .int .i64 ((rd_T43 l0_1 x19_1).f1), .int .i64 ((rd_T43 l0_1 x19_1).f2)]] rfl (by (try simp only [zMa, zMc, zMn]); first |  done|  rfl|  (simp only [zLd, zLt]; rfl)) ?_; (with_reducible refine (graph_alone.calls k1 a0_0 ((rd_T43 l0_1 x19_1).f0) ((rd_T43 l0_1 x19_1).f1) ((rd_T43 l0_1 x19_1).f2) t118 _ A9.out).mono ?_); rintro e w34 ⟨rfl, hb⟩; refine ⟨_, rfl, ?_⟩; replace BK114 := zMk (zKb (g:=gb114) (o:=.cells #[.int .i64 a0_0, .slice (some ad116) l0_1.length c0_1] 24 (0, 0)) (by (with_reducible repeat (first |  refine zKn ?_ _|  refine zKd ?_|  refine zKa ?_ _)); refine blk_far ?_ NB114_117.out _; (with_reducible repeat (first |  refine zKn ?_ _|  refine zKd ?_|  refine zKa ?_ _)); refine blk_far ?_ NB114_117.out _; (with_reducible repeat (first |  refine zKn ?_ _|  refine zKd ?_|  refine zKa ?_ _)); refine blk_far ?_ NB114_117.out _; (with_reducible repeat (first |  refine zKn ?_ _|  refine zKd ?_|  refine zKa ?_ _)); exact BK114.out) hb); replace BK117 := zMk (zKb (g:=gb117) (o:=.cells #[.int .i64 ((rd_T43 l0_1 x19_1).f0), .int .i64 ((rd_T43 l0_1 x19_1).f1), .int .i64 ((rd_T43 l0_1 x19_1).f2)] 43 (0, 0)) (by (with_reducible repeat (first |  refine zKn ?_ _|  refine zKd ?_|  refine zKa ?_ _)); refine blk_put (cs:=#[.int .i64 ((rd_T43 l0_1 x19_1).f0), .int .i64 ((rd_T43 l0_1 x19_1).f1), .int .i64 0]) ?_ 2 _ rfl; (with_reducible repeat (first |  refine zKn ?_ _|  refine zKd ?_|  refine zKa ?_ _)); refine blk_put (cs:=#[.int .i64 ((rd_T43 l0_1 x19_1).f0), .int .i64 0, .int .i64 0]) ?_ 1 _ rfl; (with_reducible repeat (first |  refine zKn ?_ _|  refine zKd ?_|  refine zKa ?_ _)); refine blk_put (cs:=#[.int .i64 0, .int .i64 0, .int .i64 0]) ?_ 0 _ rfl; (with_reducible repeat (first |  refine zKn ?_ _|  refine zKd ?_|  refine zKa ?_ _)); exact BK117.out) hb); replace HB := zMk (zBt (uT HB.out) hb); have hcz35_0 : w34.cell? ⟨gb117, 0, none⟩ = some (.int .i64 ((rd_T43 l0_1 x19_1).f0)) := (zKc BK117.out 0).trans rfl; have hcz35_1 : w34.cell? ⟨gb117, 1, none⟩ = some (.int .i64 ((rd_T43 l0_1 x19_1).f1)) := (zKc BK117.out 1).trans rfl; have hcz35_2 : w34.cell? ⟨gb117, 2, none⟩ = some (.int .i64 ((rd_T43 l0_1 x19_1).f2)) := (zKc BK117.out 2).trans rfl; have hfz35_0 := zKf BK117.out 0; have hfz35_1 := zKf BK117.out 1; have hfz35_2 := zKf BK117.out 2))
       replace BK114 := zMk (zKd BK114.out)
       replace BK117 := zMk (zKd BK117.out)
       replace HB := zMk (zBd HB.out)
       have p119 : 0 ≤ ((ji25) : Int) := of_decide_eq_true (by assumption)
       have q119 : (ji25) < (l0_1.length : Int) := of_decide_eq_true (by assumption)
       obtain ⟨ad119, e119, hx119_0, hx119_1, hx119_2⟩ := at_T43 HR0_1.out (ji25) p119 q119
       have hw119_2 := hx119_2
       have hw119_1 := hx119_1
       have hw119_0 := hx119_0
       obtain rfl : ad116 = ad119 := (by injection e119)
       replace hx119_0 := pw_cell_below HB.out hx119_0
       replace hx119_1 := pw_cell_below HB.out hx119_1
       replace hx119_2 := pw_cell_below HB.out hx119_2
       replace p119 := eq_true p119
       replace q119 := eq_true q119
       refine start_ (n:=8) (S:=fun w' => w'.cell? ⟨gb114, 0, none⟩ = some (.int .i64 a0_0) ∧ w'.cell? ⟨gb114, 1, none⟩ = some (.slice (some ad116) l0_1.length c0_1) ∧ w'.cell? ⟨gb117, 0, none⟩ = some (.int .i64 ((rd_T43 l0_1 x19_1).f0)) ∧ w'.cell? ⟨gb117, 1, none⟩ = some (.int .i64 ((rd_T43 l0_1 x19_1).f1)) ∧ w'.cell? ⟨gb117, 2, none⟩ = some (.int .i64 ((rd_T43 l0_1 x19_1).f2)) ∧ w'.cell? (ad116.add (((ji25)).toNat * 3)) = some (.int .i64 ((rd_T43 l0_1 (ji25)).f0)) ∧ w'.cell? ⟨(ad116.add (((ji25)).toNat * 3)).block, (ad116.add (((ji25)).toNat * 3)).off + 1, none⟩ = some (.int .i64 ((rd_T43 l0_1 (ji25)).f1)) ∧ w'.cell? ⟨(ad116.add (((ji25)).toNat * 3)).block, (ad116.add (((ji25)).toNat * 3)).off + 2, none⟩ = some (.int .i64 ((rd_T43 l0_1 (ji25)).f2))) (ds:=[]) #[false,false,false,false,false,false,false,false] (by kernel_rfl) rfl rfl ⟨(zKc BK114.out 0).trans rfl, (zKc BK114.out 1).trans rfl, (zKc BK117.out 0).trans rfl, (zKc BK117.out 1).trans rfl, (zKc BK117.out 2).trans rfl, (pw_cell_below HB.out hw119_0), (pw_cell_below HB.out hw119_1), (pw_cell_below HB.out hw119_2)⟩ (fun hHeld => ?_); refine with_tabW graph_Right.tab13 graph_Right.bits13 (fun HT_ HW_ => ?_)
       generalize w34.drew = w36 at BK114 BK117 HB hx119_0 hx119_1 hx119_2 hHeld ⊢
       refine pure_ (i:=0) (N:=some 41) (v:=?_) (a' := ?_) #[true,false,false,false,false,false,false,false] rfl rfl (any_of HT_.out (by kernel_rfl)) (fun _ _ _ h => h) (Or.inl ⟨by rfl, ?_⟩) ?_ ?_
       rotate_left
       ·intro w'
        go_simp
        with_reducible rfl
       rotate_left
       ·simp only [Act.put, zSa, zSb, zSc, i64_w, i32_w]
        rfl
       refine pure_ (i:=2) (N:=some 43) (v:=?_) (a' := ?_) #[true,false,true,false,false,false,false,false] rfl rfl (any_of HT_.out (by kernel_rfl)) (fun _ _ _ h => h) (Or.inl ⟨by rfl, ?_⟩) ?_ ?_
       rotate_left
       ·intro w'
        go_simp
        with_reducible rfl
       rotate_left
       ·simp only [Act.put, zSa, zSb, zSc, i64_w, i32_w]
        rfl
       refine pure_ (i:=3) (N:=some 44) (v:=?_) (a' := ?_) #[true,false,true,true,false,false,false,false] rfl rfl (any_of HT_.out (by kernel_rfl)) (fun _ _ _ h => h) (Or.inl ⟨by rfl, ?_⟩) ?_ ?_
       rotate_left
       ·intro w'
        go_simp
        with_reducible rfl
       rotate_left
       ·simp only [Act.put, zSa, zSb, zSc, i64_w, i32_w]
        rfl
       refine take_ (i:=1) (N:=some 42) (v:=?_) (a' := ?_) #[true,true,true,true,false,false,false,false] rfl rfl (take_ofW HT_.out HW_.out (by kernel_rfl)) (fun _ _ _ h => h) (Or.inl ⟨by rfl, ?_⟩) hHeld ?_ ?_
       rotate_left
       ·rintro w' ⟨s0, s1, s2, s3, s4, s5, s6, s7⟩
        go_simp
        with_reducible rfl
       rotate_left
       ·simp only [Act.put, zSa, zSb, zSc, i64_w, i32_w]
        rfl
       refine pure_ (i:=4) (N:=some 45) (v:=?_) (a' := ?_) #[true,true,true,true,true,false,false,false] rfl rfl (any_of HT_.out (by kernel_rfl)) (fun _ _ _ h => h) (Or.inl ⟨by rfl, ?_⟩) ?_ ?_
       rotate_left
       ·intro w'
        go_simp
        with_reducible rfl
       rotate_left
       ·simp only [Act.put, zSa, zSb, zSc, i64_w, i32_w]
        rfl
       refine take_ (i:=5) (N:=some 46) (v:=?_) (a' := ?_) #[true,true,true,true,true,true,false,false] rfl rfl (take_ofW HT_.out HW_.out (by kernel_rfl)) (fun _ _ _ h => h) (Or.inl ⟨by rfl, ?_⟩) hHeld ?_ ?_
       rotate_left
       ·rintro w' ⟨s0, s1, s2, s3, s4, s5, s6, s7⟩
        go_simp
        with_reducible rfl
       rotate_left
       ·simp only [Act.put, zSa, zSb, zSc, i64_w, i32_w]
        rfl
       refine take_ (i:=6) (N:=some 47) (v:=?_) (a' := ?_) #[true,true,true,true,true,true,true,false] rfl rfl (take_ofW HT_.out HW_.out (by kernel_rfl)) (fun _ _ _ h => h) (Or.inl ⟨by rfl, ?_⟩) hHeld ?_ ?_
       rotate_left
       ·rintro w' ⟨s0, s1, s2, s3, s4, s5, s6, s7⟩
        go_simp
        with_reducible rfl
       rotate_left
       ·simp only [Act.put, zSa, zSb, zSc, i64_w, i32_w]
        rfl
       refine one_ (i:=7) (N:=some 48) #[true,true,true,true,true,true,true,true] rfl rfl (one_of HT_.out (by kernel_rfl)) (by decide) (fun K hK => ?_)
       refine goes_ Try.func42 (by kernel_rfl) rfl #[.agg #[.int .i64 ((rd_T43 l0_1 (ji25)).f0), .int .i64 ((rd_T43 l0_1 (ji25)).f1), .int .i64 ((rd_T43 l0_1 (ji25)).f2)], .agg #[.int .i64 ((rd_T43 l0_1 x19_1).f0), .int .i64 ((rd_T43 l0_1 x19_1).f1), .int .i64 ((rd_T43 l0_1 x19_1).f2)]] (by rfl) rfl rfl (by (try simp only [zMa, zMc, zMn]); first | done | (simp only [hji25]; rfl) | rfl | (simp only [zLd, zLt]; rfl)) ?_
       with_reducible refine (graph_order.calls k1 ((rd_T43 l0_1 (ji25)).f0) ((rd_T43 l0_1 (ji25)).f1) ((rd_T43 l0_1 (ji25)).f2) ((rd_T43 l0_1 x19_1).f0) ((rd_T43 l0_1 x19_1).f1) ((rd_T43 l0_1 x19_1).f2) t120 _ A28.out).mono ?_
       rintro e w37 ⟨rfl, hb⟩
       refine ⟨_, rfl, ?_⟩
       replace BK114 := zMk (zKb BK114.out hb)
       replace BK117 := zMk (zKb (g:=gb117) (o:=.cells #[.int .i64 ((rd_T43 l0_1 x19_1).f0), .int .i64 ((rd_T43 l0_1 x19_1).f1), .int .i64 ((rd_T43 l0_1 x19_1).f2)] 43 (0, 0)) BK117.out hb)
       replace HB := zMk (zBt (uT HB.out) hb)
       refine hK.out _ _ ⟨(zKc BK114.out 0).trans rfl, (zKc BK114.out 1).trans rfl, (zKc BK117.out 0).trans rfl, (zKc BK117.out 1).trans rfl, (zKc BK117.out 2).trans rfl, (pw_cell_below HB.out hw119_0), (pw_cell_below HB.out hw119_1), (pw_cell_below HB.out hw119_2)⟩ (fun hHeld => ?_)
       clear hK K
       refine norm_ (a' := ?_) ?_ ?_
       rotate_left
       ·show Act.put _ (some 48) _ = _
        simp only [Act.put, zSa, zSb, zSc, i64_w, i32_w]
        rfl
       refine done_ (done_of HT_.out (by kernel_rfl)) ?_
       try go_wp2
       go_ret
       exact ⟨by first | rfl | (simp [errW_none, errW_some] <;> rfl) | (simp only [← hji25]; first | rfl | (simp [errW_none, errW_some] <;> rfl)) | (simp [*, errW_none, errW_some] <;> rfl), by exact uT HB.out⟩
      ·rw [if_neg c29] at H
       have c29b0 : (t120 == 0) = false := beq_eq_false_iff_ne.mpr c29
       have c29b1 : (t120 != 0) = true := bne_iff_ne.mpr c29
       by_cases c38 : t120 = 1
       ·rw [if_pos c38] at H
        have c38b0 : (t120 == 1) = true := beq_iff_eq.mpr c38
        have c38b1 : (t120 != 1) = false := bne_eq_false_iff_eq.mpr c38
        clear c38
        obtain rfl := zOi H
        have p116 : 0 ≤ (x19_1 : Int) := of_decide_eq_true (by assumption)
        have q116 : x19_1 < (l0_1.length : Int) := of_decide_eq_true (by assumption)
        obtain ⟨ad116, e116, hx116_0, hx116_1, hx116_2⟩ := at_T43 HR0_1.out x19_1 p116 q116
        cases e116
        replace hx116_0 := pw_cell_below HB.out hx116_0
        replace hx116_1 := pw_cell_below HB.out hx116_1
        replace hx116_2 := pw_cell_below HB.out hx116_2
        replace p116 := eq_true p116
        replace q116 := eq_true q116
        try go_wp2_with (first | ((with_reducible refine gate_dst (N:=5) rfl ?_); refine box_event ?hg (N:=5) ?hd (cs:=#[.int .i64 0, .int .i64 0, .int .i64 0]) (t:=43) ?hr ?_; (case hd => rfl); (case hg => rfl); (case hr => first | (go_simp; done)|(go_simp; rfl)|(go_simp; rw [show ∀ x : Int, IntKind.u32.wrap (IntKind.u8.wrap x) = x % 256 from fun x => (by show (x % 256) % 4294967296 = x % 256; omega)])); intro gb117 hg w39 hbox hb; have BK117 := zMk (hbox); have GW117 := zMk ((by rw [hg]; exact (zBs (uT HB.out)) : w.heap.size ≤ gb117)); have GE117 := zMk ((by rw [hg]; exact (zBs (uT HB.out)) : w.heap.size ≤ gb117)); have IGE117 := ownGe GE117.out; replace HB := zMk (zBt (uT HB.out) hb); have NB114_117 := zMk ((by rw [hg]; exact Nat.ne_of_lt (blk_lt BK114.out) : gb114 ≠ gb117)); have NB117_114 := zMk ((by rw [hg]; exact Nat.ne_of_gt (blk_lt BK114.out) : gb117 ≠ gb114)); replace BK114 := zMk (zKb BK114.out hb); clear hb hbox hg; have hnb40 := NB117_114.out; have hnc40 := NB114_117.out; have hcz41_0 : w39.cell? ⟨gb117, 0, none⟩ = some (.int .i64 0) := (zKc BK117.out 0).trans rfl; have hcz41_1 : w39.cell? ⟨gb117, 1, none⟩ = some (.int .i64 0) := (zKc BK117.out 1).trans rfl; have hcz41_2 : w39.cell? ⟨gb117, 2, none⟩ = some (.int .i64 0) := (zKc BK117.out 2).trans rfl; have hfz41_0 := zKf BK117.out 0; have hfz41_1 := zKf BK117.out 1; have hfz41_2 := zKf BK117.out 2; have hcz42_0 : w39.cell? ⟨gb114, 0, none⟩ = some (.int .i64 a0_0) := (zKc BK114.out 0).trans rfl; have hcz42_1 : w39.cell? ⟨gb114, 1, none⟩ = some (.slice (some ad116) l0_1.length c0_1) := (zKc BK114.out 1).trans rfl; have hfz42_0 := zKf BK114.out 0; have hfz42_1 := zKf BK114.out 1)|((with_reducible refine gate_callee (f:=41) rfl ?_); refine goesL_ (some 27) rfl rfl Try.func41 (by kernel_rfl) rfl #[.int .i64 a0_0, .agg #[.int .i64 ((rd_T43 l0_1 x19_1).f0), .int .i64 ((rd_T43 l0_1 x19_1).f1), .int .i64 ((rd_T43 l0_1 x19_1).f2)]] rfl (by (try simp only [zMa, zMc, zMn]); first |  done|  rfl|  (simp only [zLd, zLt]; rfl)) ?_; (with_reducible refine (graph_alone.calls k1 a0_0 ((rd_T43 l0_1 x19_1).f0) ((rd_T43 l0_1 x19_1).f1) ((rd_T43 l0_1 x19_1).f2) t118 _ A9.out).mono ?_); rintro e w43 ⟨rfl, hb⟩; refine ⟨_, rfl, ?_⟩; replace BK114 := zMk (zKb (g:=gb114) (o:=.cells #[.int .i64 a0_0, .slice (some ad116) l0_1.length c0_1] 24 (0, 0)) (by (with_reducible repeat (first |  refine zKn ?_ _|  refine zKd ?_|  refine zKa ?_ _)); refine blk_far ?_ NB114_117.out _; (with_reducible repeat (first |  refine zKn ?_ _|  refine zKd ?_|  refine zKa ?_ _)); refine blk_far ?_ NB114_117.out _; (with_reducible repeat (first |  refine zKn ?_ _|  refine zKd ?_|  refine zKa ?_ _)); refine blk_far ?_ NB114_117.out _; (with_reducible repeat (first |  refine zKn ?_ _|  refine zKd ?_|  refine zKa ?_ _)); exact BK114.out) hb); replace BK117 := zMk (zKb (g:=gb117) (o:=.cells #[.int .i64 ((rd_T43 l0_1 x19_1).f0), .int .i64 ((rd_T43 l0_1 x19_1).f1), .int .i64 ((rd_T43 l0_1 x19_1).f2)] 43 (0, 0)) (by (with_reducible repeat (first |  refine zKn ?_ _|  refine zKd ?_|  refine zKa ?_ _)); refine blk_put (cs:=#[.int .i64 ((rd_T43 l0_1 x19_1).f0), .int .i64 ((rd_T43 l0_1 x19_1).f1), .int .i64 0]) ?_ 2 _ rfl; (with_reducible repeat (first |  refine zKn ?_ _|  refine zKd ?_|  refine zKa ?_ _)); refine blk_put (cs:=#[.int .i64 ((rd_T43 l0_1 x19_1).f0), .int .i64 0, .int .i64 0]) ?_ 1 _ rfl; (with_reducible repeat (first |  refine zKn ?_ _|  refine zKd ?_|  refine zKa ?_ _)); refine blk_put (cs:=#[.int .i64 0, .int .i64 0, .int .i64 0]) ?_ 0 _ rfl; (with_reducible repeat (first |  refine zKn ?_ _|  refine zKd ?_|  refine zKa ?_ _)); exact BK117.out) hb); replace HB := zMk (zBt (uT HB.out) hb); have hcz44_0 : w43.cell? ⟨gb117, 0, none⟩ = some (.int .i64 ((rd_T43 l0_1 x19_1).f0)) := (zKc BK117.out 0).trans rfl; have hcz44_1 : w43.cell? ⟨gb117, 1, none⟩ = some (.int .i64 ((rd_T43 l0_1 x19_1).f1)) := (zKc BK117.out 1).trans rfl; have hcz44_2 : w43.cell? ⟨gb117, 2, none⟩ = some (.int .i64 ((rd_T43 l0_1 x19_1).f2)) := (zKc BK117.out 2).trans rfl; have hfz44_0 := zKf BK117.out 0; have hfz44_1 := zKf BK117.out 1; have hfz44_2 := zKf BK117.out 2))
        replace BK114 := zMk (zKd BK114.out)
        replace BK117 := zMk (zKd BK117.out)
        replace HB := zMk (zBd HB.out)
        have p119 : 0 ≤ ((ji25) : Int) := of_decide_eq_true (by assumption)
        have q119 : (ji25) < (l0_1.length : Int) := of_decide_eq_true (by assumption)
        obtain ⟨ad119, e119, hx119_0, hx119_1, hx119_2⟩ := at_T43 HR0_1.out (ji25) p119 q119
        have hw119_2 := hx119_2
        have hw119_1 := hx119_1
        have hw119_0 := hx119_0
        obtain rfl : ad116 = ad119 := (by injection e119)
        replace hx119_0 := pw_cell_below HB.out hx119_0
        replace hx119_1 := pw_cell_below HB.out hx119_1
        replace hx119_2 := pw_cell_below HB.out hx119_2
        replace p119 := eq_true p119
        replace q119 := eq_true q119
        refine start_ (n:=8) (S:=fun w' => w'.cell? ⟨gb114, 0, none⟩ = some (.int .i64 a0_0) ∧ w'.cell? ⟨gb114, 1, none⟩ = some (.slice (some ad116) l0_1.length c0_1) ∧ w'.cell? ⟨gb117, 0, none⟩ = some (.int .i64 ((rd_T43 l0_1 x19_1).f0)) ∧ w'.cell? ⟨gb117, 1, none⟩ = some (.int .i64 ((rd_T43 l0_1 x19_1).f1)) ∧ w'.cell? ⟨gb117, 2, none⟩ = some (.int .i64 ((rd_T43 l0_1 x19_1).f2)) ∧ w'.cell? (ad116.add (((ji25)).toNat * 3)) = some (.int .i64 ((rd_T43 l0_1 (ji25)).f0)) ∧ w'.cell? ⟨(ad116.add (((ji25)).toNat * 3)).block, (ad116.add (((ji25)).toNat * 3)).off + 1, none⟩ = some (.int .i64 ((rd_T43 l0_1 (ji25)).f1)) ∧ w'.cell? ⟨(ad116.add (((ji25)).toNat * 3)).block, (ad116.add (((ji25)).toNat * 3)).off + 2, none⟩ = some (.int .i64 ((rd_T43 l0_1 (ji25)).f2))) (ds:=[]) #[false,false,false,false,false,false,false,false] (by kernel_rfl) rfl rfl ⟨(zKc BK114.out 0).trans rfl, (zKc BK114.out 1).trans rfl, (zKc BK117.out 0).trans rfl, (zKc BK117.out 1).trans rfl, (zKc BK117.out 2).trans rfl, (pw_cell_below HB.out hw119_0), (pw_cell_below HB.out hw119_1), (pw_cell_below HB.out hw119_2)⟩ (fun hHeld => ?_); refine with_tabW graph_Right.tab13 graph_Right.bits13 (fun HT_ HW_ => ?_)
        generalize w43.drew = w45 at BK114 BK117 HB hx119_0 hx119_1 hx119_2 hHeld ⊢
        refine pure_ (i:=0) (N:=some 41) (v:=?_) (a' := ?_) #[true,false,false,false,false,false,false,false] rfl rfl (any_of HT_.out (by kernel_rfl)) (fun _ _ _ h => h) (Or.inl ⟨by rfl, ?_⟩) ?_ ?_
        rotate_left
        ·intro w'
         go_simp
         with_reducible rfl
        rotate_left
        ·simp only [Act.put, zSa, zSb, zSc, i64_w, i32_w]
         rfl
        refine pure_ (i:=2) (N:=some 43) (v:=?_) (a' := ?_) #[true,false,true,false,false,false,false,false] rfl rfl (any_of HT_.out (by kernel_rfl)) (fun _ _ _ h => h) (Or.inl ⟨by rfl, ?_⟩) ?_ ?_
        rotate_left
        ·intro w'
         go_simp
         with_reducible rfl
        rotate_left
        ·simp only [Act.put, zSa, zSb, zSc, i64_w, i32_w]
         rfl
        refine pure_ (i:=3) (N:=some 44) (v:=?_) (a' := ?_) #[true,false,true,true,false,false,false,false] rfl rfl (any_of HT_.out (by kernel_rfl)) (fun _ _ _ h => h) (Or.inl ⟨by rfl, ?_⟩) ?_ ?_
        rotate_left
        ·intro w'
         go_simp
         with_reducible rfl
        rotate_left
        ·simp only [Act.put, zSa, zSb, zSc, i64_w, i32_w]
         rfl
        refine take_ (i:=1) (N:=some 42) (v:=?_) (a' := ?_) #[true,true,true,true,false,false,false,false] rfl rfl (take_ofW HT_.out HW_.out (by kernel_rfl)) (fun _ _ _ h => h) (Or.inl ⟨by rfl, ?_⟩) hHeld ?_ ?_
        rotate_left
        ·rintro w' ⟨s0, s1, s2, s3, s4, s5, s6, s7⟩
         go_simp
         with_reducible rfl
        rotate_left
        ·simp only [Act.put, zSa, zSb, zSc, i64_w, i32_w]
         rfl
        refine pure_ (i:=4) (N:=some 45) (v:=?_) (a' := ?_) #[true,true,true,true,true,false,false,false] rfl rfl (any_of HT_.out (by kernel_rfl)) (fun _ _ _ h => h) (Or.inl ⟨by rfl, ?_⟩) ?_ ?_
        rotate_left
        ·intro w'
         go_simp
         with_reducible rfl
        rotate_left
        ·simp only [Act.put, zSa, zSb, zSc, i64_w, i32_w]
         rfl
        refine take_ (i:=5) (N:=some 46) (v:=?_) (a' := ?_) #[true,true,true,true,true,true,false,false] rfl rfl (take_ofW HT_.out HW_.out (by kernel_rfl)) (fun _ _ _ h => h) (Or.inl ⟨by rfl, ?_⟩) hHeld ?_ ?_
        rotate_left
        ·rintro w' ⟨s0, s1, s2, s3, s4, s5, s6, s7⟩
         go_simp
         with_reducible rfl
        rotate_left
        ·simp only [Act.put, zSa, zSb, zSc, i64_w, i32_w]
         rfl
        refine take_ (i:=6) (N:=some 47) (v:=?_) (a' := ?_) #[true,true,true,true,true,true,true,false] rfl rfl (take_ofW HT_.out HW_.out (by kernel_rfl)) (fun _ _ _ h => h) (Or.inl ⟨by rfl, ?_⟩) hHeld ?_ ?_
        rotate_left
        ·rintro w' ⟨s0, s1, s2, s3, s4, s5, s6, s7⟩
         go_simp
         with_reducible rfl
        rotate_left
        ·simp only [Act.put, zSa, zSb, zSc, i64_w, i32_w]
         rfl
        refine one_ (i:=7) (N:=some 48) #[true,true,true,true,true,true,true,true] rfl rfl (one_of HT_.out (by kernel_rfl)) (by decide) (fun K hK => ?_)
        refine goes_ Try.func42 (by kernel_rfl) rfl #[.agg #[.int .i64 ((rd_T43 l0_1 (ji25)).f0), .int .i64 ((rd_T43 l0_1 (ji25)).f1), .int .i64 ((rd_T43 l0_1 (ji25)).f2)], .agg #[.int .i64 ((rd_T43 l0_1 x19_1).f0), .int .i64 ((rd_T43 l0_1 x19_1).f1), .int .i64 ((rd_T43 l0_1 x19_1).f2)]] (by rfl) rfl rfl (by (try simp only [zMa, zMc, zMn]); first | done | (simp only [hji25]; rfl) | rfl | (simp only [zLd, zLt]; rfl)) ?_
        with_reducible refine (graph_order.calls k1 ((rd_T43 l0_1 (ji25)).f0) ((rd_T43 l0_1 (ji25)).f1) ((rd_T43 l0_1 (ji25)).f2) ((rd_T43 l0_1 x19_1).f0) ((rd_T43 l0_1 x19_1).f1) ((rd_T43 l0_1 x19_1).f2) t120 _ A28.out).mono ?_
        rintro e w46 ⟨rfl, hb⟩
        refine ⟨_, rfl, ?_⟩
        replace BK114 := zMk (zKb BK114.out hb)
        replace BK117 := zMk (zKb (g:=gb117) (o:=.cells #[.int .i64 ((rd_T43 l0_1 x19_1).f0), .int .i64 ((rd_T43 l0_1 x19_1).f1), .int .i64 ((rd_T43 l0_1 x19_1).f2)] 43 (0, 0)) BK117.out hb)
        replace HB := zMk (zBt (uT HB.out) hb)
        refine hK.out _ _ ⟨(zKc BK114.out 0).trans rfl, (zKc BK114.out 1).trans rfl, (zKc BK117.out 0).trans rfl, (zKc BK117.out 1).trans rfl, (zKc BK117.out 2).trans rfl, (pw_cell_below HB.out hw119_0), (pw_cell_below HB.out hw119_1), (pw_cell_below HB.out hw119_2)⟩ (fun hHeld => ?_)
        clear hK K
        refine norm_ (a' := ?_) ?_ ?_
        rotate_left
        ·show Act.put _ (some 48) _ = _
         simp only [Act.put, zSa, zSb, zSc, i64_w, i32_w]
         rfl
        refine done_ (done_of HT_.out (by kernel_rfl)) ?_
        try go_wp2
        go_ret
        exact ⟨by first | rfl | (simp [errW_none, errW_some] <;> rfl) | (simp only [← hji25]; first | rfl | (simp [errW_none, errW_some] <;> rfl)) | (simp [*, errW_none, errW_some] <;> rfl), by exact uT HB.out⟩
       ·rw [if_neg c38] at H
        have c38b0 : (t120 == 1) = false := beq_eq_false_iff_ne.mpr c38
        have c38b1 : (t120 != 1) = true := bne_iff_ne.mpr c38
        have H' := zMk H
        clear H
        have p116 : 0 ≤ (x19_1 : Int) := of_decide_eq_true (by assumption)
        have q116 : x19_1 < (l0_1.length : Int) := of_decide_eq_true (by assumption)
        obtain ⟨ad116, e116, hx116_0, hx116_1, hx116_2⟩ := at_T43 HR0_1.out x19_1 p116 q116
        cases e116
        replace hx116_0 := pw_cell_below HB.out hx116_0
        replace hx116_1 := pw_cell_below HB.out hx116_1
        replace hx116_2 := pw_cell_below HB.out hx116_2
        replace p116 := eq_true p116
        replace q116 := eq_true q116
        try go_wp2_with (first | ((with_reducible refine gate_dst (N:=5) rfl ?_); refine box_event ?hg (N:=5) ?hd (cs:=#[.int .i64 0, .int .i64 0, .int .i64 0]) (t:=43) ?hr ?_; (case hd => rfl); (case hg => rfl); (case hr => first | (go_simp; done)|(go_simp; rfl)|(go_simp; rw [show ∀ x : Int, IntKind.u32.wrap (IntKind.u8.wrap x) = x % 256 from fun x => (by show (x % 256) % 4294967296 = x % 256; omega)])); intro gb117 hg w47 hbox hb; have BK117 := zMk (hbox); have GW117 := zMk ((by rw [hg]; exact (zBs (uT HB.out)) : w.heap.size ≤ gb117)); have GE117 := zMk ((by rw [hg]; exact (zBs (uT HB.out)) : w.heap.size ≤ gb117)); have IGE117 := ownGe GE117.out; replace HB := zMk (zBt (uT HB.out) hb); have NB114_117 := zMk ((by rw [hg]; exact Nat.ne_of_lt (blk_lt BK114.out) : gb114 ≠ gb117)); have NB117_114 := zMk ((by rw [hg]; exact Nat.ne_of_gt (blk_lt BK114.out) : gb117 ≠ gb114)); replace BK114 := zMk (zKb BK114.out hb); clear hb hbox hg; have hnb48 := NB117_114.out; have hnc48 := NB114_117.out; have hcz49_0 : w47.cell? ⟨gb117, 0, none⟩ = some (.int .i64 0) := (zKc BK117.out 0).trans rfl; have hcz49_1 : w47.cell? ⟨gb117, 1, none⟩ = some (.int .i64 0) := (zKc BK117.out 1).trans rfl; have hcz49_2 : w47.cell? ⟨gb117, 2, none⟩ = some (.int .i64 0) := (zKc BK117.out 2).trans rfl; have hfz49_0 := zKf BK117.out 0; have hfz49_1 := zKf BK117.out 1; have hfz49_2 := zKf BK117.out 2; have hcz50_0 : w47.cell? ⟨gb114, 0, none⟩ = some (.int .i64 a0_0) := (zKc BK114.out 0).trans rfl; have hcz50_1 : w47.cell? ⟨gb114, 1, none⟩ = some (.slice (some ad116) l0_1.length c0_1) := (zKc BK114.out 1).trans rfl; have hfz50_0 := zKf BK114.out 0; have hfz50_1 := zKf BK114.out 1)|((with_reducible refine gate_callee (f:=41) rfl ?_); refine goesL_ (some 27) rfl rfl Try.func41 (by kernel_rfl) rfl #[.int .i64 a0_0, .agg #[.int .i64 ((rd_T43 l0_1 x19_1).f0), .int .i64 ((rd_T43 l0_1 x19_1).f1), .int .i64 ((rd_T43 l0_1 x19_1).f2)]] rfl (by (try simp only [zMa, zMc, zMn]); first |  done|  rfl|  (simp only [zLd, zLt]; rfl)) ?_; (with_reducible refine (graph_alone.calls k1 a0_0 ((rd_T43 l0_1 x19_1).f0) ((rd_T43 l0_1 x19_1).f1) ((rd_T43 l0_1 x19_1).f2) t118 _ A9.out).mono ?_); rintro e w51 ⟨rfl, hb⟩; refine ⟨_, rfl, ?_⟩; replace BK114 := zMk (zKb (g:=gb114) (o:=.cells #[.int .i64 a0_0, .slice (some ad116) l0_1.length c0_1] 24 (0, 0)) (by (with_reducible repeat (first |  refine zKn ?_ _|  refine zKd ?_|  refine zKa ?_ _)); refine blk_far ?_ NB114_117.out _; (with_reducible repeat (first |  refine zKn ?_ _|  refine zKd ?_|  refine zKa ?_ _)); refine blk_far ?_ NB114_117.out _; (with_reducible repeat (first |  refine zKn ?_ _|  refine zKd ?_|  refine zKa ?_ _)); refine blk_far ?_ NB114_117.out _; (with_reducible repeat (first |  refine zKn ?_ _|  refine zKd ?_|  refine zKa ?_ _)); exact BK114.out) hb); replace BK117 := zMk (zKb (g:=gb117) (o:=.cells #[.int .i64 ((rd_T43 l0_1 x19_1).f0), .int .i64 ((rd_T43 l0_1 x19_1).f1), .int .i64 ((rd_T43 l0_1 x19_1).f2)] 43 (0, 0)) (by (with_reducible repeat (first |  refine zKn ?_ _|  refine zKd ?_|  refine zKa ?_ _)); refine blk_put (cs:=#[.int .i64 ((rd_T43 l0_1 x19_1).f0), .int .i64 ((rd_T43 l0_1 x19_1).f1), .int .i64 0]) ?_ 2 _ rfl; (with_reducible repeat (first |  refine zKn ?_ _|  refine zKd ?_|  refine zKa ?_ _)); refine blk_put (cs:=#[.int .i64 ((rd_T43 l0_1 x19_1).f0), .int .i64 0, .int .i64 0]) ?_ 1 _ rfl; (with_reducible repeat (first |  refine zKn ?_ _|  refine zKd ?_|  refine zKa ?_ _)); refine blk_put (cs:=#[.int .i64 0, .int .i64 0, .int .i64 0]) ?_ 0 _ rfl; (with_reducible repeat (first |  refine zKn ?_ _|  refine zKd ?_|  refine zKa ?_ _)); exact BK117.out) hb); replace HB := zMk (zBt (uT HB.out) hb); have hcz52_0 : w51.cell? ⟨gb117, 0, none⟩ = some (.int .i64 ((rd_T43 l0_1 x19_1).f0)) := (zKc BK117.out 0).trans rfl; have hcz52_1 : w51.cell? ⟨gb117, 1, none⟩ = some (.int .i64 ((rd_T43 l0_1 x19_1).f1)) := (zKc BK117.out 1).trans rfl; have hcz52_2 : w51.cell? ⟨gb117, 2, none⟩ = some (.int .i64 ((rd_T43 l0_1 x19_1).f2)) := (zKc BK117.out 2).trans rfl; have hfz52_0 := zKf BK117.out 0; have hfz52_1 := zKf BK117.out 1; have hfz52_2 := zKf BK117.out 2))
        replace BK114 := zMk (zKd BK114.out)
        replace BK117 := zMk (zKd BK117.out)
        replace HB := zMk (zBd HB.out)
        have p119 : 0 ≤ ((ji25) : Int) := of_decide_eq_true (by assumption)
        have q119 : (ji25) < (l0_1.length : Int) := of_decide_eq_true (by assumption)
        obtain ⟨ad119, e119, hx119_0, hx119_1, hx119_2⟩ := at_T43 HR0_1.out (ji25) p119 q119
        have hw119_2 := hx119_2
        have hw119_1 := hx119_1
        have hw119_0 := hx119_0
        obtain rfl : ad116 = ad119 := (by injection e119)
        replace hx119_0 := pw_cell_below HB.out hx119_0
        replace hx119_1 := pw_cell_below HB.out hx119_1
        replace hx119_2 := pw_cell_below HB.out hx119_2
        replace p119 := eq_true p119
        replace q119 := eq_true q119
        refine start_ (n:=8) (S:=fun w' => w'.cell? ⟨gb114, 0, none⟩ = some (.int .i64 a0_0) ∧ w'.cell? ⟨gb114, 1, none⟩ = some (.slice (some ad116) l0_1.length c0_1) ∧ w'.cell? ⟨gb117, 0, none⟩ = some (.int .i64 ((rd_T43 l0_1 x19_1).f0)) ∧ w'.cell? ⟨gb117, 1, none⟩ = some (.int .i64 ((rd_T43 l0_1 x19_1).f1)) ∧ w'.cell? ⟨gb117, 2, none⟩ = some (.int .i64 ((rd_T43 l0_1 x19_1).f2)) ∧ w'.cell? (ad116.add (((ji25)).toNat * 3)) = some (.int .i64 ((rd_T43 l0_1 (ji25)).f0)) ∧ w'.cell? ⟨(ad116.add (((ji25)).toNat * 3)).block, (ad116.add (((ji25)).toNat * 3)).off + 1, none⟩ = some (.int .i64 ((rd_T43 l0_1 (ji25)).f1)) ∧ w'.cell? ⟨(ad116.add (((ji25)).toNat * 3)).block, (ad116.add (((ji25)).toNat * 3)).off + 2, none⟩ = some (.int .i64 ((rd_T43 l0_1 (ji25)).f2))) (ds:=[]) #[false,false,false,false,false,false,false,false] (by kernel_rfl) rfl rfl ⟨(zKc BK114.out 0).trans rfl, (zKc BK114.out 1).trans rfl, (zKc BK117.out 0).trans rfl, (zKc BK117.out 1).trans rfl, (zKc BK117.out 2).trans rfl, (pw_cell_below HB.out hw119_0), (pw_cell_below HB.out hw119_1), (pw_cell_below HB.out hw119_2)⟩ (fun hHeld => ?_); refine with_tabW graph_Right.tab13 graph_Right.bits13 (fun HT_ HW_ => ?_)
        generalize w51.drew = w53 at BK114 BK117 HB hx119_0 hx119_1 hx119_2 hHeld ⊢
        refine pure_ (i:=0) (N:=some 41) (v:=?_) (a' := ?_) #[true,false,false,false,false,false,false,false] rfl rfl (any_of HT_.out (by kernel_rfl)) (fun _ _ _ h => h) (Or.inl ⟨by rfl, ?_⟩) ?_ ?_
        rotate_left
        ·intro w'
         go_simp
         with_reducible rfl
        rotate_left
        ·simp only [Act.put, zSa, zSb, zSc, i64_w, i32_w]
         rfl
        refine pure_ (i:=2) (N:=some 43) (v:=?_) (a' := ?_) #[true,false,true,false,false,false,false,false] rfl rfl (any_of HT_.out (by kernel_rfl)) (fun _ _ _ h => h) (Or.inl ⟨by rfl, ?_⟩) ?_ ?_
        rotate_left
        ·intro w'
         go_simp
         with_reducible rfl
        rotate_left
        ·simp only [Act.put, zSa, zSb, zSc, i64_w, i32_w]
         rfl
        refine pure_ (i:=3) (N:=some 44) (v:=?_) (a' := ?_) #[true,false,true,true,false,false,false,false] rfl rfl (any_of HT_.out (by kernel_rfl)) (fun _ _ _ h => h) (Or.inl ⟨by rfl, ?_⟩) ?_ ?_
        rotate_left
        ·intro w'
         go_simp
         with_reducible rfl
        rotate_left
        ·simp only [Act.put, zSa, zSb, zSc, i64_w, i32_w]
         rfl
        refine take_ (i:=1) (N:=some 42) (v:=?_) (a' := ?_) #[true,true,true,true,false,false,false,false] rfl rfl (take_ofW HT_.out HW_.out (by kernel_rfl)) (fun _ _ _ h => h) (Or.inl ⟨by rfl, ?_⟩) hHeld ?_ ?_
        rotate_left
        ·rintro w' ⟨s0, s1, s2, s3, s4, s5, s6, s7⟩
         go_simp
         with_reducible rfl
        rotate_left
        ·simp only [Act.put, zSa, zSb, zSc, i64_w, i32_w]
         rfl
        refine pure_ (i:=4) (N:=some 45) (v:=?_) (a' := ?_) #[true,true,true,true,true,false,false,false] rfl rfl (any_of HT_.out (by kernel_rfl)) (fun _ _ _ h => h) (Or.inl ⟨by rfl, ?_⟩) ?_ ?_
        rotate_left
        ·intro w'
         go_simp
         with_reducible rfl
        rotate_left
        ·simp only [Act.put, zSa, zSb, zSc, i64_w, i32_w]
         rfl
        refine take_ (i:=5) (N:=some 46) (v:=?_) (a' := ?_) #[true,true,true,true,true,true,false,false] rfl rfl (take_ofW HT_.out HW_.out (by kernel_rfl)) (fun _ _ _ h => h) (Or.inl ⟨by rfl, ?_⟩) hHeld ?_ ?_
        rotate_left
        ·rintro w' ⟨s0, s1, s2, s3, s4, s5, s6, s7⟩
         go_simp
         with_reducible rfl
        rotate_left
        ·simp only [Act.put, zSa, zSb, zSc, i64_w, i32_w]
         rfl
        refine take_ (i:=6) (N:=some 47) (v:=?_) (a' := ?_) #[true,true,true,true,true,true,true,false] rfl rfl (take_ofW HT_.out HW_.out (by kernel_rfl)) (fun _ _ _ h => h) (Or.inl ⟨by rfl, ?_⟩) hHeld ?_ ?_
        rotate_left
        ·rintro w' ⟨s0, s1, s2, s3, s4, s5, s6, s7⟩
         go_simp
         with_reducible rfl
        rotate_left
        ·simp only [Act.put, zSa, zSb, zSc, i64_w, i32_w]
         rfl
        refine one_ (i:=7) (N:=some 48) #[true,true,true,true,true,true,true,true] rfl rfl (one_of HT_.out (by kernel_rfl)) (by decide) (fun K hK => ?_)
        refine goes_ Try.func42 (by kernel_rfl) rfl #[.agg #[.int .i64 ((rd_T43 l0_1 (ji25)).f0), .int .i64 ((rd_T43 l0_1 (ji25)).f1), .int .i64 ((rd_T43 l0_1 (ji25)).f2)], .agg #[.int .i64 ((rd_T43 l0_1 x19_1).f0), .int .i64 ((rd_T43 l0_1 x19_1).f1), .int .i64 ((rd_T43 l0_1 x19_1).f2)]] (by rfl) rfl rfl (by (try simp only [zMa, zMc, zMn]); first | done | (simp only [hji25]; rfl) | rfl | (simp only [zLd, zLt]; rfl)) ?_
        with_reducible refine (graph_order.calls k1 ((rd_T43 l0_1 (ji25)).f0) ((rd_T43 l0_1 (ji25)).f1) ((rd_T43 l0_1 (ji25)).f2) ((rd_T43 l0_1 x19_1).f0) ((rd_T43 l0_1 x19_1).f1) ((rd_T43 l0_1 x19_1).f2) t120 _ A28.out).mono ?_
        rintro e w54 ⟨rfl, hb⟩
        refine ⟨_, rfl, ?_⟩
        replace BK114 := zMk (zKb BK114.out hb)
        replace BK117 := zMk (zKb (g:=gb117) (o:=.cells #[.int .i64 ((rd_T43 l0_1 x19_1).f0), .int .i64 ((rd_T43 l0_1 x19_1).f1), .int .i64 ((rd_T43 l0_1 x19_1).f2)] 43 (0, 0)) BK117.out hb)
        replace HB := zMk (zBt (uT HB.out) hb)
        refine hK.out _ _ ⟨(zKc BK114.out 0).trans rfl, (zKc BK114.out 1).trans rfl, (zKc BK117.out 0).trans rfl, (zKc BK117.out 1).trans rfl, (zKc BK117.out 2).trans rfl, (pw_cell_below HB.out hw119_0), (pw_cell_below HB.out hw119_1), (pw_cell_below HB.out hw119_2)⟩ (fun hHeld => ?_)
        clear hK K
        refine norm_ (a' := ?_) ?_ ?_
        rotate_left
        ·show Act.put _ (some 48) _ = _
         simp only [Act.put, zSa, zSb, zSc, i64_w, i32_w]
         rfl
        refine done_ (done_of HT_.out (by kernel_rfl)) ?_
        try go_wp2
        go_roundg k1
        case measure => have := HK1.out; omega
        case rel => exact ⟨(wrap64 (x19_1 + 1)), (by first | rfl | (simp; done) | (simp [*]; done)), H', ⟨by have := HK1.out; omega⟩, ⟨by (with_reducible repeat (first | refine zKn ?_ _ | refine zKd ?_ | refine zKa ?_ _)); exact BK114.out⟩, ⟨by exact uT HB.out⟩⟩
   ·rw [if_neg c10] at H
    have c10b0 : (t118 == 0) = false := beq_eq_false_iff_ne.mpr c10
    have c10b1 : (t118 != 0) = true := bne_iff_ne.mpr c10
    obtain rfl := zOi H
    have p116 : 0 ≤ (x19_1 : Int) := of_decide_eq_true (by assumption)
    have q116 : x19_1 < (l0_1.length : Int) := of_decide_eq_true (by assumption)
    obtain ⟨ad116, e116, hx116_0, hx116_1, hx116_2⟩ := at_T43 HR0_1.out x19_1 p116 q116
    cases e116
    replace hx116_0 := pw_cell_below HB.out hx116_0
    replace hx116_1 := pw_cell_below HB.out hx116_1
    replace hx116_2 := pw_cell_below HB.out hx116_2
    replace p116 := eq_true p116
    replace q116 := eq_true q116
    go_wp2_with (first | ((with_reducible refine gate_dst (N:=5) rfl ?_); refine box_event ?hg (N:=5) ?hd (cs:=#[.int .i64 0, .int .i64 0, .int .i64 0]) (t:=43) ?hr ?_; (case hd => rfl); (case hg => rfl); (case hr => first | (go_simp; done)|(go_simp; rfl)|(go_simp; rw [show ∀ x : Int, IntKind.u32.wrap (IntKind.u8.wrap x) = x % 256 from fun x => (by show (x % 256) % 4294967296 = x % 256; omega)])); intro gb117 hg w55 hbox hb; have BK117 := zMk (hbox); have GW117 := zMk ((by rw [hg]; exact (zBs (uT HB.out)) : w.heap.size ≤ gb117)); have GE117 := zMk ((by rw [hg]; exact (zBs (uT HB.out)) : w.heap.size ≤ gb117)); have IGE117 := ownGe GE117.out; replace HB := zMk (zBt (uT HB.out) hb); have NB114_117 := zMk ((by rw [hg]; exact Nat.ne_of_lt (blk_lt BK114.out) : gb114 ≠ gb117)); have NB117_114 := zMk ((by rw [hg]; exact Nat.ne_of_gt (blk_lt BK114.out) : gb117 ≠ gb114)); replace BK114 := zMk (zKb BK114.out hb); clear hb hbox hg; have hnb56 := NB117_114.out; have hnc56 := NB114_117.out; have hcz57_0 : w55.cell? ⟨gb117, 0, none⟩ = some (.int .i64 0) := (zKc BK117.out 0).trans rfl; have hcz57_1 : w55.cell? ⟨gb117, 1, none⟩ = some (.int .i64 0) := (zKc BK117.out 1).trans rfl; have hcz57_2 : w55.cell? ⟨gb117, 2, none⟩ = some (.int .i64 0) := (zKc BK117.out 2).trans rfl; have hfz57_0 := zKf BK117.out 0; have hfz57_1 := zKf BK117.out 1; have hfz57_2 := zKf BK117.out 2; have hcz58_0 : w55.cell? ⟨gb114, 0, none⟩ = some (.int .i64 a0_0) := (zKc BK114.out 0).trans rfl; have hcz58_1 : w55.cell? ⟨gb114, 1, none⟩ = some (.slice (some ad116) l0_1.length c0_1) := (zKc BK114.out 1).trans rfl; have hfz58_0 := zKf BK114.out 0; have hfz58_1 := zKf BK114.out 1)|((with_reducible refine gate_callee (f:=41) rfl ?_); refine goesL_ (some 27) rfl rfl Try.func41 (by kernel_rfl) rfl #[.int .i64 a0_0, .agg #[.int .i64 ((rd_T43 l0_1 x19_1).f0), .int .i64 ((rd_T43 l0_1 x19_1).f1), .int .i64 ((rd_T43 l0_1 x19_1).f2)]] rfl (by (try simp only [zMa, zMc, zMn]); first |  done|  rfl|  (simp only [zLd, zLt]; rfl)) ?_; (with_reducible refine (graph_alone.calls k1 a0_0 ((rd_T43 l0_1 x19_1).f0) ((rd_T43 l0_1 x19_1).f1) ((rd_T43 l0_1 x19_1).f2) t118 _ A9.out).mono ?_); rintro e w59 ⟨rfl, hb⟩; refine ⟨_, rfl, ?_⟩; replace BK114 := zMk (zKb (g:=gb114) (o:=.cells #[.int .i64 a0_0, .slice (some ad116) l0_1.length c0_1] 24 (0, 0)) (by (with_reducible repeat (first |  refine zKn ?_ _|  refine zKd ?_|  refine zKa ?_ _)); refine blk_far ?_ NB114_117.out _; (with_reducible repeat (first |  refine zKn ?_ _|  refine zKd ?_|  refine zKa ?_ _)); refine blk_far ?_ NB114_117.out _; (with_reducible repeat (first |  refine zKn ?_ _|  refine zKd ?_|  refine zKa ?_ _)); refine blk_far ?_ NB114_117.out _; (with_reducible repeat (first |  refine zKn ?_ _|  refine zKd ?_|  refine zKa ?_ _)); exact BK114.out) hb); replace BK117 := zMk (zKb (g:=gb117) (o:=.cells #[.int .i64 ((rd_T43 l0_1 x19_1).f0), .int .i64 ((rd_T43 l0_1 x19_1).f1), .int .i64 ((rd_T43 l0_1 x19_1).f2)] 43 (0, 0)) (by (with_reducible repeat (first |  refine zKn ?_ _|  refine zKd ?_|  refine zKa ?_ _)); refine blk_put (cs:=#[.int .i64 ((rd_T43 l0_1 x19_1).f0), .int .i64 ((rd_T43 l0_1 x19_1).f1), .int .i64 0]) ?_ 2 _ rfl; (with_reducible repeat (first |  refine zKn ?_ _|  refine zKd ?_|  refine zKa ?_ _)); refine blk_put (cs:=#[.int .i64 ((rd_T43 l0_1 x19_1).f0), .int .i64 0, .int .i64 0]) ?_ 1 _ rfl; (with_reducible repeat (first |  refine zKn ?_ _|  refine zKd ?_|  refine zKa ?_ _)); refine blk_put (cs:=#[.int .i64 0, .int .i64 0, .int .i64 0]) ?_ 0 _ rfl; (with_reducible repeat (first |  refine zKn ?_ _|  refine zKd ?_|  refine zKa ?_ _)); exact BK117.out) hb); replace HB := zMk (zBt (uT HB.out) hb)))
    go_ret
    exact ⟨by first | rfl | (simp [errW_none, errW_some] <;> rfl) | (simp [*, errW_none, errW_some] <;> rfl), by exact uT HB.out⟩
  ·rw [if_neg c6] at H
   have c6b0 : decide (x19_1 < (l0_1.length : Int)) = false := decide_eq_false c6
   clear c6
   obtain rfl := zOi H
   go_wp2
   go_ret
   exact ⟨by first | rfl | (simp [errW_none, errW_some] <;> rfl) | (simp [*, errW_none, errW_some] <;> rfl), by exact uT HB.out⟩
 ·rw [if_neg c3] at H
  have c3b0 : (t115 == 0) = false := beq_eq_false_iff_ne.mpr c3
  have c3b1 : (t115 != 0) = true := bne_iff_ne.mpr c3
  obtain rfl := zOi H
  go_enter Try.func27, Try.ntmps27
  go_wp2_with (first | ((with_reducible refine gate_dst (N:=1) rfl ?_); refine box_event ?hg (N:=1) ?hd (cs:=#[.int .i64 a0_0, .slice A0_1 l0_1.length c0_1]) (t:=24) ?hr ?_; (case hd => rfl); (case hg => rfl); (case hr => first | (go_simp; done)|(go_simp; rfl)|(go_simp; rw [show ∀ x : Int, IntKind.u32.wrap (IntKind.u8.wrap x) = x % 256 from fun x => (by show (x % 256) % 4294967296 = x % 256; omega)])); intro gb114 hg w60 hbox hb; have BK114 := zMk (hbox); have GW114 := zMk ((by rw [hg]; exact (zBs (uT HB.out)) : w.heap.size ≤ gb114)); have GE114 := zMk ((by rw [hg]; exact (zBs (uT HB.out)) : w.heap.size ≤ gb114)); have IGE114 := ownGe GE114.out; replace HB := zMk (zBt (uT HB.out) hb); clear hb hbox hg; have hcz61_0 : w60.cell? ⟨gb114, 0, none⟩ = some (.int .i64 a0_0) := (zKc BK114.out 0).trans rfl; have hcz61_1 : w60.cell? ⟨gb114, 1, none⟩ = some (.slice A0_1 l0_1.length c0_1) := (zKc BK114.out 1).trans rfl; have hfz61_0 := zKf BK114.out 0; have hfz61_1 := zKf BK114.out 1)|((with_reducible refine gate_callee (f:=40) rfl ?_); refine goesL_ (some 12) rfl rfl Try.func40 (by kernel_rfl) rfl #[.int .i64 a0_0, .int .i64 (l0_1.length : Int)] rfl (by (try simp only [zMa, zMc, zMn]); first |  done|  rfl|  (simp only [zLd, zLt]; rfl)) ?_; (with_reducible refine (graph_sizes.calls a0_0 (l0_1.length : Int) t115 _ A2.out).mono ?_); rintro e w' ⟨rfl, ⟨nd, rfl⟩⟩; refine ⟨_, rfl, ?_⟩))
  go_ret
  exact ⟨by first | rfl | (simp [errW_none, errW_some] <;> rfl) | (simp [*, errW_none, errW_some] <;> rfl), by exact uT HB.out⟩


def r4_many.f (a0 : Int) (a1 : Int) : Option (Int) := if a0 < 0 then (some 1) else (if a0 > 1048576 then (some 4) else (if a1 > 4194304 then (some 4) else (some 0)))
theorem r4_many.calls (a0 : Int) (a1 : Int) (r : Int) (w : World) (h : r4_many.f a0 a1 = some r) :
    Calls Try.prog 24 #[.int .i64 a0, .int .i64 a1] w fun e w' => e = .returned (.int .i64 r) ∧ Drawn0 w w' := by
  have H : (if a0 < 0 then (some 1) else (if a0 > 1048576 then (some 4) else (if a1 > 4194304 then (some 4) else (some 0)))) = some r := h
  clear h
  by_cases c3 : a0 < 0
  · rw [if_pos c3] at H
    have c3b0 : decide (a0 < 0) = true := decide_eq_true c3
    clear c3
    obtain rfl := zOi H
    go_enter Try.func24, Try.ntmps24
    go_wp2
    go_ret
    exact ⟨by first | rfl | (simp; done) | (simp [*]; done), by repeat (first | exact Drawn0.refl _ | apply Drawn0.step)⟩
  · rw [if_neg c3] at H
    have c3b0 : decide (a0 < 0) = false := decide_eq_false c3
    clear c3
    by_cases c4 : a0 > 1048576
    · rw [if_pos c4] at H
      have c4b0 : decide (1048576 < a0) = true := decide_eq_true c4
      clear c4
      obtain rfl := zOi H
      go_enter Try.func24, Try.ntmps24
      go_wp2
      go_ret
      exact ⟨by first | rfl | (simp; done) | (simp [*]; done), by repeat (first | exact Drawn0.refl _ | apply Drawn0.step)⟩
    · rw [if_neg c4] at H
      have c4b0 : decide (1048576 < a0) = false := decide_eq_false c4
      clear c4
      by_cases c5 : a1 > 4194304
      · rw [if_pos c5] at H
        have c5b0 : decide (4194304 < a1) = true := decide_eq_true c5
        clear c5
        obtain rfl := zOi H
        go_enter Try.func24, Try.ntmps24
        go_wp2
        go_ret
        exact ⟨by first | rfl | (simp; done) | (simp [*]; done), by repeat (first | exact Drawn0.refl _ | apply Drawn0.step)⟩
      · rw [if_neg c5] at H
        have c5b0 : decide (4194304 < a1) = false := decide_eq_false c5
        clear c5
        obtain rfl := zOi H
        go_enter Try.func24, Try.ntmps24
        go_wp2
        go_ret
        exact ⟨by first | rfl | (simp; done) | (simp [*]; done), by repeat (first | exact Drawn0.refl _ | apply Drawn0.step)⟩


def r4_edge.j0 : Nat → Bool → Int → Int → Int → Option (Int)
 | 0, _, _, _, _ => none
 | k + 1, x24, x308000, x308001, x308002 => if x24 = true then (some 5) else (if x308000 = x308001 then (some 6) else (if x308002 ≤ (-2147483648) then (some 8) else (if x308002 ≥ 2147483648 then (some 8) else (some 0))))
def r4_edge.f (k : Nat) (a0 : Int) (a1_0 : Int) (a1_1 : Int) (a1_2 : Int) : Option (Int) := if a1_0 < 0 then (r4_edge.j0 k true a1_0 a1_1 a1_2) else (if a1_0 ≥ a0 then (r4_edge.j0 k true a1_0 a1_1 a1_2) else (if a1_1 < 0 then (r4_edge.j0 k true a1_0 a1_1 a1_2) else (r4_edge.j0 k (decide (a1_1 ≥ a0)) a1_0 a1_1 a1_2)))
theorem r4_edge.calls (k : Nat) (a0 : Int) (a1_0 : Int) (a1_1 : Int) (a1_2 : Int) (r : Int) (w : World) (h : r4_edge.f k a0 a1_0 a1_1 a1_2 = some r) :
  Calls Try.prog 25 #[.int .i64 a0, .agg #[.int .i64 a1_0, .int .i64 a1_1, .int .i64 a1_2]] w fun e w' => e = .returned (.int .i64 r) ∧ Below w.heap.size w w' := by
 have hu43 := Try.underlying43
 have HB := zMk (Below.refl w.heap.size w)
 have H : (if a1_0 < 0 then (r4_edge.j0 k true a1_0 a1_1 a1_2) else (if a1_0 ≥ a0 then (r4_edge.j0 k true a1_0 a1_1 a1_2) else (if a1_1 < 0 then (r4_edge.j0 k true a1_0 a1_1 a1_2) else (r4_edge.j0 k (decide (a1_1 ≥ a0)) a1_0 a1_1 a1_2)))) = some r := h
 clear h
 have HC3 := zMk H
 clear H
 go_enter Try.func25, Try.ntmps25
 go_upto_region 1 with (first | ((with_reducible refine gate_dst (N:=3) rfl ?_); refine box_event ?hg (N:=3) ?hd (cs:=#[.int .i64 a1_0, .int .i64 a1_1, .int .i64 a1_2]) (t:=43) ?hr ?_; (case hd => rfl); (case hg => rfl); (case hr => first | (go_simp; done)|(go_simp; rfl)|(go_simp; rw [show ∀ x : Int, IntKind.u32.wrap (IntKind.u8.wrap x) = x % 256 from fun x => (by show (x % 256) % 4294967296 = x % 256; omega)])); intro gb307 hg w4 hbox hb; have BK307 := zMk (hbox); have GW307 := zMk ((by rw [hg]; exact (zBs (by exact uT HB.out)) : w.heap.size ≤ gb307)); have GE307 := zMk ((by rw [hg]; exact (zBs (by exact uT HB.out)) : w.heap.size ≤ gb307)); have IGE307 := ownGe GE307.out; replace HB := zMk (zBt (by exact uT HB.out) hb); clear hb hbox hg))
 (try simp only [Act.put, zSa, zSb, zSc])
 go_cut [24] (fun v24 wc => ∃ (kq : Nat) (x24_2 : Bool), v24 = .bool x24_2 ∧ Aside0 (r4_edge.j0 kq x24_2 a1_0 a1_1 a1_2 = some r) ∧ Aside0 (kq ≤ k) ∧ Aside0 (wc.heap[gb307]? = some (.cells #[.int .i64 a1_0, .int .i64 a1_1, .int .i64 a1_2] 43 (0, 0))) ∧ Aside0 (Below w.heap.size w wc))
 case first =>
  have H := HC3.out
  clear HC3
  by_cases c5 : a1_0 < 0
  ·rw [if_pos c5] at H
   have c5b0 : decide (a1_0 < 0) = true := decide_eq_true c5
   clear c5
   (first | rw [c5b0] | (simp only [i64_w, i32_w]; rw [c5b0]) | rw [c5b1] | skip)
   have H' := zMk H
   clear H
   have hcz6_0 : w4.cell? ⟨gb307, 0, none⟩ = some (.int .i64 a1_0) := (zKc BK307.out 0).trans rfl
   have hcz6_1 : w4.cell? ⟨gb307, 1, none⟩ = some (.int .i64 a1_1) := (zKc BK307.out 1).trans rfl
   have hcz6_2 : w4.cell? ⟨gb307, 2, none⟩ = some (.int .i64 a1_2) := (zKc BK307.out 2).trans rfl
   have hfz6_0 := zKf BK307.out 0
   have hfz6_1 := zKf BK307.out 1
   have hfz6_2 := zKf BK307.out 2
   go_wp2
   go_meet
   case rel => exact ⟨_, (true), (by first | rfl | (simp; done) | (simp [*]; done)), H', ⟨by first | omega | exact Nat.le_refl _⟩, ⟨by (with_reducible repeat (first | refine zKn ?_ _ | refine zKd ?_ | refine zKa ?_ _)); exact BK307.out⟩, ⟨by exact uT HB.out⟩⟩
  ·rw [if_neg c5] at H
   have c5b0 : decide (a1_0 < 0) = false := decide_eq_false c5
   clear c5
   (first | rw [c5b0] | (simp only [i64_w, i32_w]; rw [c5b0]) | rw [c5b1] | skip)
   by_cases c7 : a1_0 ≥ a0
   ·rw [if_pos c7] at H
    have c7b0 : decide (a0 ≤ a1_0) = true := decide_eq_true c7
    clear c7
    have H' := zMk H
    clear H
    have hcz8_0 : w4.cell? ⟨gb307, 0, none⟩ = some (.int .i64 a1_0) := (zKc BK307.out 0).trans rfl
    have hcz8_1 : w4.cell? ⟨gb307, 1, none⟩ = some (.int .i64 a1_1) := (zKc BK307.out 1).trans rfl
    have hcz8_2 : w4.cell? ⟨gb307, 2, none⟩ = some (.int .i64 a1_2) := (zKc BK307.out 2).trans rfl
    have hfz8_0 := zKf BK307.out 0
    have hfz8_1 := zKf BK307.out 1
    have hfz8_2 := zKf BK307.out 2
    go_wp2
    go_meet
    case rel => exact ⟨_, (true), (by first | rfl | (simp; done) | (simp [*]; done)), H', ⟨by first | omega | exact Nat.le_refl _⟩, ⟨by (with_reducible repeat (first | refine zKn ?_ _ | refine zKd ?_ | refine zKa ?_ _)); exact BK307.out⟩, ⟨by exact uT HB.out⟩⟩
   ·rw [if_neg c7] at H
    have c7b0 : decide (a0 ≤ a1_0) = false := decide_eq_false c7
    clear c7
    by_cases c9 : a1_1 < 0
    ·rw [if_pos c9] at H
     have c9b0 : decide (a1_1 < 0) = true := decide_eq_true c9
     clear c9
     have H' := zMk H
     clear H
     have hcz10_0 : w4.cell? ⟨gb307, 0, none⟩ = some (.int .i64 a1_0) := (zKc BK307.out 0).trans rfl
     have hcz10_1 : w4.cell? ⟨gb307, 1, none⟩ = some (.int .i64 a1_1) := (zKc BK307.out 1).trans rfl
     have hcz10_2 : w4.cell? ⟨gb307, 2, none⟩ = some (.int .i64 a1_2) := (zKc BK307.out 2).trans rfl
     have hfz10_0 := zKf BK307.out 0
     have hfz10_1 := zKf BK307.out 1
     have hfz10_2 := zKf BK307.out 2
     go_wp2
     go_meet
     case rel => exact ⟨_, (true), (by first | rfl | (simp; done) | (simp [*]; done)), H', ⟨by first | omega | exact Nat.le_refl _⟩, ⟨by (with_reducible repeat (first | refine zKn ?_ _ | refine zKd ?_ | refine zKa ?_ _)); exact BK307.out⟩, ⟨by exact uT HB.out⟩⟩
    ·rw [if_neg c9] at H
     have c9b0 : decide (a1_1 < 0) = false := decide_eq_false c9
     clear c9
     have H' := zMk H
     clear H
     have hcz11_0 : w4.cell? ⟨gb307, 0, none⟩ = some (.int .i64 a1_0) := (zKc BK307.out 0).trans rfl
     have hcz11_1 : w4.cell? ⟨gb307, 1, none⟩ = some (.int .i64 a1_1) := (zKc BK307.out 1).trans rfl
     have hcz11_2 : w4.cell? ⟨gb307, 2, none⟩ = some (.int .i64 a1_2) := (zKc BK307.out 2).trans rfl
     have hfz11_0 := zKf BK307.out 0
     have hfz11_1 := zKf BK307.out 1
     have hfz11_2 := zKf BK307.out 2
     go_wp2
     go_meet
     case rel => exact ⟨_, (decide (a1_1 ≥ a0)), (by first | rfl | (simp; done) | (simp [*]; done)), H', ⟨by first | omega | exact Nat.le_refl _⟩, ⟨by (with_reducible repeat (first | refine zKn ?_ _ | refine zKd ?_ | refine zKa ?_ _)); exact BK307.out⟩, ⟨by exact uT HB.out⟩⟩
 case rest =>
  clear HC3
  obtain ⟨kq, x24_2, rfl, HA, HJ2, BK307, HB⟩ := hcut
  rcases kq with _ | kj2
  ·exact absurd HA.out (by simp [r4_edge.j0])
  have H := HA.out
  clear HA
  simp only [r4_edge.j0] at H
  by_cases c12 : x24_2 = true
  ·subst c12
   replace H : (some 5) = some r := by rw [if_pos rfl] at H; exact H
   obtain rfl := zOi H
   go_wp2
   go_ret
   exact ⟨by first | rfl | (simp [errW_none, errW_some] <;> rfl) | (simp [*, errW_none, errW_some] <;> rfl), by exact uT HB.out⟩
  ·replace c12 := Bool.eq_false_iff.mpr c12
   subst c12
   replace H : (if a1_0 = a1_1 then (some 6) else (if a1_2 ≤ (-2147483648) then (some 8) else (if a1_2 ≥ 2147483648 then (some 8) else (some 0)))) = some r := by rw [if_neg (show ¬ (false = true) by decide)] at H; exact H
   by_cases c13 : a1_0 = a1_1
   ·rw [if_pos c13] at H
    have c13b0 : (a1_0 == a1_1) = true := beq_iff_eq.mpr c13
    have c13b1 : (a1_0 != a1_1) = false := bne_eq_false_iff_eq.mpr c13
    clear c13
    obtain rfl := zOi H
    have hcz14_0 : wc.cell? ⟨gb307, 0, none⟩ = some (.int .i64 a1_0) := (zKc BK307.out 0).trans rfl
    have hcz14_1 : wc.cell? ⟨gb307, 1, none⟩ = some (.int .i64 a1_1) := (zKc BK307.out 1).trans rfl
    have hcz14_2 : wc.cell? ⟨gb307, 2, none⟩ = some (.int .i64 a1_2) := (zKc BK307.out 2).trans rfl
    have hfz14_0 := zKf BK307.out 0
    have hfz14_1 := zKf BK307.out 1
    have hfz14_2 := zKf BK307.out 2
    go_wp2
    go_ret
    exact ⟨by first | rfl | (simp [errW_none, errW_some] <;> rfl) | (simp [*, errW_none, errW_some] <;> rfl), by exact uT HB.out⟩
   ·rw [if_neg c13] at H
    have c13b0 : (a1_0 == a1_1) = false := beq_eq_false_iff_ne.mpr c13
    have c13b1 : (a1_0 != a1_1) = true := bne_iff_ne.mpr c13
    by_cases c15 : a1_2 ≤ (-2147483648)
    ·rw [if_pos c15] at H
     have c15b0 : decide (a1_2 ≤ (-2147483648)) = true := decide_eq_true c15
     clear c15
     obtain rfl := zOi H
     have hcz16_0 : wc.cell? ⟨gb307, 0, none⟩ = some (.int .i64 a1_0) := (zKc BK307.out 0).trans rfl
     have hcz16_1 : wc.cell? ⟨gb307, 1, none⟩ = some (.int .i64 a1_1) := (zKc BK307.out 1).trans rfl
     have hcz16_2 : wc.cell? ⟨gb307, 2, none⟩ = some (.int .i64 a1_2) := (zKc BK307.out 2).trans rfl
     have hfz16_0 := zKf BK307.out 0
     have hfz16_1 := zKf BK307.out 1
     have hfz16_2 := zKf BK307.out 2
     go_wp2
     go_ret
     exact ⟨by first | rfl | (simp [errW_none, errW_some] <;> rfl) | (simp [*, errW_none, errW_some] <;> rfl), by exact uT HB.out⟩
    ·rw [if_neg c15] at H
     have c15b0 : decide (a1_2 ≤ (-2147483648)) = false := decide_eq_false c15
     clear c15
     by_cases c17 : a1_2 ≥ 2147483648
     ·rw [if_pos c17] at H
      have c17b0 : decide (2147483648 ≤ a1_2) = true := decide_eq_true c17
      clear c17
      obtain rfl := zOi H
      have hcz18_0 : wc.cell? ⟨gb307, 0, none⟩ = some (.int .i64 a1_0) := (zKc BK307.out 0).trans rfl
      have hcz18_1 : wc.cell? ⟨gb307, 1, none⟩ = some (.int .i64 a1_1) := (zKc BK307.out 1).trans rfl
      have hcz18_2 : wc.cell? ⟨gb307, 2, none⟩ = some (.int .i64 a1_2) := (zKc BK307.out 2).trans rfl
      have hfz18_0 := zKf BK307.out 0
      have hfz18_1 := zKf BK307.out 1
      have hfz18_2 := zKf BK307.out 2
      go_wp2
      go_ret
      exact ⟨by first | rfl | (simp [errW_none, errW_some] <;> rfl) | (simp [*, errW_none, errW_some] <;> rfl), by exact uT HB.out⟩
     ·rw [if_neg c17] at H
      have c17b0 : decide (2147483648 ≤ a1_2) = false := decide_eq_false c17
      clear c17
      obtain rfl := zOi H
      have hcz19_0 : wc.cell? ⟨gb307, 0, none⟩ = some (.int .i64 a1_0) := (zKc BK307.out 0).trans rfl
      have hcz19_1 : wc.cell? ⟨gb307, 1, none⟩ = some (.int .i64 a1_1) := (zKc BK307.out 1).trans rfl
      have hcz19_2 : wc.cell? ⟨gb307, 2, none⟩ = some (.int .i64 a1_2) := (zKc BK307.out 2).trans rfl
      have hfz19_0 := zKf BK307.out 0
      have hfz19_1 := zKf BK307.out 1
      have hfz19_2 := zKf BK307.out 2
      go_wp2
      go_ret
      exact ⟨by first | rfl | (simp [errW_none, errW_some] <;> rfl) | (simp [*, errW_none, errW_some] <;> rfl), by exact uT HB.out⟩


def r4_below.f (a0_0 : Int) (a0_1 : Int) (a0_2 : Int) (a1_0 : Int) (a1_1 : Int) (a1_2 : Int) : Option (Bool) := if a0_0 < a1_0 then (some true) else (if a0_0 = a1_0 then (some (decide (a0_1 < a1_1))) else (some false))
theorem r4_below.calls (a0_0 : Int) (a0_1 : Int) (a0_2 : Int) (a1_0 : Int) (a1_1 : Int) (a1_2 : Int) (r : Bool) (w : World) (h : r4_below.f a0_0 a0_1 a0_2 a1_0 a1_1 a1_2 = some r) :
  Calls Try.prog 26 #[.agg #[.int .i64 a0_0, .int .i64 a0_1, .int .i64 a0_2], .agg #[.int .i64 a1_0, .int .i64 a1_1, .int .i64 a1_2]] w fun e w' => e = .returned (.bool r) ∧ Below w.heap.size w w' := by
 have hu43 := Try.underlying43
 have HB := zMk (Below.refl w.heap.size w)
 have H : (if a0_0 < a1_0 then (some true) else (if a0_0 = a1_0 then (some (decide (a0_1 < a1_1))) else (some false))) = some r := h
 clear h
 by_cases c3 : a0_0 < a1_0
 ·rw [if_pos c3] at H
  have c3b0 : decide (a0_0 < a1_0) = true := decide_eq_true c3
  clear c3
  obtain rfl := zOi H
  go_enter Try.func26, Try.ntmps26
  go_wp2_with (first | ((with_reducible refine gate_dst (N:=2) rfl ?_); refine box_event ?hg (N:=2) ?hd (cs:=#[.int .i64 a0_0, .int .i64 a0_1, .int .i64 a0_2]) (t:=43) ?hr ?_; (case hd => rfl); (case hg => rfl); (case hr => first | (go_simp; done)|(go_simp; rfl)|(go_simp; rw [show ∀ x : Int, IntKind.u32.wrap (IntKind.u8.wrap x) = x % 256 from fun x => (by show (x % 256) % 4294967296 = x % 256; omega)])); intro gb308 hg w4 hbox hb; have BK308 := zMk (hbox); have GW308 := zMk ((by rw [hg]; exact (zBs (by exact uT HB.out)) : w.heap.size ≤ gb308)); have GE308 := zMk ((by rw [hg]; exact (zBs (by exact uT HB.out)) : w.heap.size ≤ gb308)); have IGE308 := ownGe GE308.out; replace HB := zMk (zBt (by exact uT HB.out) hb); clear hb hbox hg)|((with_reducible refine gate_dst (N:=3) rfl ?_); refine box_event ?hg (N:=3) ?hd (cs:=#[.int .i64 a1_0, .int .i64 a1_1, .int .i64 a1_2]) (t:=43) ?hr ?_; (case hd => rfl); (case hg => rfl); (case hr => first | (go_simp; done)|(go_simp; rfl)|(go_simp; rw [show ∀ x : Int, IntKind.u32.wrap (IntKind.u8.wrap x) = x % 256 from fun x => (by show (x % 256) % 4294967296 = x % 256; omega)])); intro gb309 hg w5 hbox hb; have BK309 := zMk (hbox); have GW309 := zMk ((by rw [hg]; exact (zBs (by exact uT HB.out)) : w.heap.size ≤ gb309)); have GE309 := zMk ((by rw [hg]; exact (zBs (by exact uT HB.out)) : w.heap.size ≤ gb309)); have IGE309 := ownGe GE309.out; replace HB := zMk (zBt (by exact uT HB.out) hb); have NB308_309 := zMk ((by rw [hg]; exact Nat.ne_of_lt (blk_lt (g:=gb308) (o:=.cells #[.int .i64 a0_0, .int .i64 a0_1, .int .i64 a0_2] 43 (0, 0)) (by (with_reducible repeat (first |  refine zKn ?_ _|  refine zKd ?_|  refine zKa ?_ _)); exact BK308.out)) : gb308 ≠ gb309)); have NB309_308 := zMk ((by rw [hg]; exact Nat.ne_of_gt (blk_lt (g:=gb308) (o:=.cells #[.int .i64 a0_0, .int .i64 a0_1, .int .i64 a0_2] 43 (0, 0)) (by (with_reducible repeat (first |  refine zKn ?_ _|  refine zKd ?_|  refine zKa ?_ _)); exact BK308.out)) : gb309 ≠ gb308)); replace BK308 := zMk (zKb (g:=gb308) (o:=.cells #[.int .i64 a0_0, .int .i64 a0_1, .int .i64 a0_2] 43 (0, 0)) (by (with_reducible repeat (first |  refine zKn ?_ _|  refine zKd ?_|  refine zKa ?_ _)); exact BK308.out) hb); clear hb hbox hg; have hnb6 := NB308_309.out; have hnc6 := NB309_308.out; have hcz7_0 : w5.cell? ⟨gb308, 0, none⟩ = some (.int .i64 a0_0) := (zKc BK308.out 0).trans rfl; have hcz7_1 : w5.cell? ⟨gb308, 1, none⟩ = some (.int .i64 a0_1) := (zKc BK308.out 1).trans rfl; have hcz7_2 : w5.cell? ⟨gb308, 2, none⟩ = some (.int .i64 a0_2) := (zKc BK308.out 2).trans rfl; have hfz7_0 := zKf BK308.out 0; have hfz7_1 := zKf BK308.out 1; have hfz7_2 := zKf BK308.out 2; have hcz8_0 : w5.cell? ⟨gb309, 0, none⟩ = some (.int .i64 a1_0) := (zKc BK309.out 0).trans rfl; have hcz8_1 : w5.cell? ⟨gb309, 1, none⟩ = some (.int .i64 a1_1) := (zKc BK309.out 1).trans rfl; have hcz8_2 : w5.cell? ⟨gb309, 2, none⟩ = some (.int .i64 a1_2) := (zKc BK309.out 2).trans rfl; have hfz8_0 := zKf BK309.out 0; have hfz8_1 := zKf BK309.out 1; have hfz8_2 := zKf BK309.out 2))
  go_ret
  exact ⟨by first | rfl | (simp [errW_none, errW_some] <;> rfl) | (simp [*, errW_none, errW_some] <;> rfl), by exact uT HB.out⟩
 ·rw [if_neg c3] at H
  have c3b0 : decide (a0_0 < a1_0) = false := decide_eq_false c3
  clear c3
  by_cases c9 : a0_0 = a1_0
  ·rw [if_pos c9] at H
   have c9b0 : (a0_0 == a1_0) = true := beq_iff_eq.mpr c9
   have c9b1 : (a0_0 != a1_0) = false := bne_eq_false_iff_eq.mpr c9
   clear c9
   obtain rfl := zOi H
   go_enter Try.func26, Try.ntmps26
   go_wp2_with (first | ((with_reducible refine gate_dst (N:=2) rfl ?_); refine box_event ?hg (N:=2) ?hd (cs:=#[.int .i64 a0_0, .int .i64 a0_1, .int .i64 a0_2]) (t:=43) ?hr ?_; (case hd => rfl); (case hg => rfl); (case hr => first | (go_simp; done)|(go_simp; rfl)|(go_simp; rw [show ∀ x : Int, IntKind.u32.wrap (IntKind.u8.wrap x) = x % 256 from fun x => (by show (x % 256) % 4294967296 = x % 256; omega)])); intro gb308 hg w10 hbox hb; have BK308 := zMk (hbox); have GW308 := zMk ((by rw [hg]; exact (zBs (by exact uT HB.out)) : w.heap.size ≤ gb308)); have GE308 := zMk ((by rw [hg]; exact (zBs (by exact uT HB.out)) : w.heap.size ≤ gb308)); have IGE308 := ownGe GE308.out; replace HB := zMk (zBt (by exact uT HB.out) hb); clear hb hbox hg)|((with_reducible refine gate_dst (N:=3) rfl ?_); refine box_event ?hg (N:=3) ?hd (cs:=#[.int .i64 a1_0, .int .i64 a1_1, .int .i64 a1_2]) (t:=43) ?hr ?_; (case hd => rfl); (case hg => rfl); (case hr => first | (go_simp; done)|(go_simp; rfl)|(go_simp; rw [show ∀ x : Int, IntKind.u32.wrap (IntKind.u8.wrap x) = x % 256 from fun x => (by show (x % 256) % 4294967296 = x % 256; omega)])); intro gb309 hg w11 hbox hb; have BK309 := zMk (hbox); have GW309 := zMk ((by rw [hg]; exact (zBs (by exact uT HB.out)) : w.heap.size ≤ gb309)); have GE309 := zMk ((by rw [hg]; exact (zBs (by exact uT HB.out)) : w.heap.size ≤ gb309)); have IGE309 := ownGe GE309.out; replace HB := zMk (zBt (by exact uT HB.out) hb); have NB308_309 := zMk ((by rw [hg]; exact Nat.ne_of_lt (blk_lt (g:=gb308) (o:=.cells #[.int .i64 a0_0, .int .i64 a0_1, .int .i64 a0_2] 43 (0, 0)) (by (with_reducible repeat (first |  refine zKn ?_ _|  refine zKd ?_|  refine zKa ?_ _)); exact BK308.out)) : gb308 ≠ gb309)); have NB309_308 := zMk ((by rw [hg]; exact Nat.ne_of_gt (blk_lt (g:=gb308) (o:=.cells #[.int .i64 a0_0, .int .i64 a0_1, .int .i64 a0_2] 43 (0, 0)) (by (with_reducible repeat (first |  refine zKn ?_ _|  refine zKd ?_|  refine zKa ?_ _)); exact BK308.out)) : gb309 ≠ gb308)); replace BK308 := zMk (zKb (g:=gb308) (o:=.cells #[.int .i64 a0_0, .int .i64 a0_1, .int .i64 a0_2] 43 (0, 0)) (by (with_reducible repeat (first |  refine zKn ?_ _|  refine zKd ?_|  refine zKa ?_ _)); exact BK308.out) hb); clear hb hbox hg; have hnb12 := NB308_309.out; have hnc12 := NB309_308.out; have hcz13_0 : w11.cell? ⟨gb308, 0, none⟩ = some (.int .i64 a0_0) := (zKc BK308.out 0).trans rfl; have hcz13_1 : w11.cell? ⟨gb308, 1, none⟩ = some (.int .i64 a0_1) := (zKc BK308.out 1).trans rfl; have hcz13_2 : w11.cell? ⟨gb308, 2, none⟩ = some (.int .i64 a0_2) := (zKc BK308.out 2).trans rfl; have hfz13_0 := zKf BK308.out 0; have hfz13_1 := zKf BK308.out 1; have hfz13_2 := zKf BK308.out 2; have hcz14_0 : w11.cell? ⟨gb309, 0, none⟩ = some (.int .i64 a1_0) := (zKc BK309.out 0).trans rfl; have hcz14_1 : w11.cell? ⟨gb309, 1, none⟩ = some (.int .i64 a1_1) := (zKc BK309.out 1).trans rfl; have hcz14_2 : w11.cell? ⟨gb309, 2, none⟩ = some (.int .i64 a1_2) := (zKc BK309.out 2).trans rfl; have hfz14_0 := zKf BK309.out 0; have hfz14_1 := zKf BK309.out 1; have hfz14_2 := zKf BK309.out 2))
   go_ret
   exact ⟨by first | rfl | (simp [errW_none, errW_some] <;> rfl) | (simp [*, errW_none, errW_some] <;> rfl), by exact uT HB.out⟩
  ·rw [if_neg c9] at H
   have c9b0 : (a0_0 == a1_0) = false := beq_eq_false_iff_ne.mpr c9
   have c9b1 : (a0_0 != a1_0) = true := bne_iff_ne.mpr c9
   obtain rfl := zOi H
   go_enter Try.func26, Try.ntmps26
   go_wp2_with (first | ((with_reducible refine gate_dst (N:=2) rfl ?_); refine box_event ?hg (N:=2) ?hd (cs:=#[.int .i64 a0_0, .int .i64 a0_1, .int .i64 a0_2]) (t:=43) ?hr ?_; (case hd => rfl); (case hg => rfl); (case hr => first | (go_simp; done)|(go_simp; rfl)|(go_simp; rw [show ∀ x : Int, IntKind.u32.wrap (IntKind.u8.wrap x) = x % 256 from fun x => (by show (x % 256) % 4294967296 = x % 256; omega)])); intro gb308 hg w15 hbox hb; have BK308 := zMk (hbox); have GW308 := zMk ((by rw [hg]; exact (zBs (by exact uT HB.out)) : w.heap.size ≤ gb308)); have GE308 := zMk ((by rw [hg]; exact (zBs (by exact uT HB.out)) : w.heap.size ≤ gb308)); have IGE308 := ownGe GE308.out; replace HB := zMk (zBt (by exact uT HB.out) hb); clear hb hbox hg)|((with_reducible refine gate_dst (N:=3) rfl ?_); refine box_event ?hg (N:=3) ?hd (cs:=#[.int .i64 a1_0, .int .i64 a1_1, .int .i64 a1_2]) (t:=43) ?hr ?_; (case hd => rfl); (case hg => rfl); (case hr => first | (go_simp; done)|(go_simp; rfl)|(go_simp; rw [show ∀ x : Int, IntKind.u32.wrap (IntKind.u8.wrap x) = x % 256 from fun x => (by show (x % 256) % 4294967296 = x % 256; omega)])); intro gb309 hg w16 hbox hb; have BK309 := zMk (hbox); have GW309 := zMk ((by rw [hg]; exact (zBs (by exact uT HB.out)) : w.heap.size ≤ gb309)); have GE309 := zMk ((by rw [hg]; exact (zBs (by exact uT HB.out)) : w.heap.size ≤ gb309)); have IGE309 := ownGe GE309.out; replace HB := zMk (zBt (by exact uT HB.out) hb); have NB308_309 := zMk ((by rw [hg]; exact Nat.ne_of_lt (blk_lt (g:=gb308) (o:=.cells #[.int .i64 a0_0, .int .i64 a0_1, .int .i64 a0_2] 43 (0, 0)) (by (with_reducible repeat (first |  refine zKn ?_ _|  refine zKd ?_|  refine zKa ?_ _)); exact BK308.out)) : gb308 ≠ gb309)); have NB309_308 := zMk ((by rw [hg]; exact Nat.ne_of_gt (blk_lt (g:=gb308) (o:=.cells #[.int .i64 a0_0, .int .i64 a0_1, .int .i64 a0_2] 43 (0, 0)) (by (with_reducible repeat (first |  refine zKn ?_ _|  refine zKd ?_|  refine zKa ?_ _)); exact BK308.out)) : gb309 ≠ gb308)); replace BK308 := zMk (zKb (g:=gb308) (o:=.cells #[.int .i64 a0_0, .int .i64 a0_1, .int .i64 a0_2] 43 (0, 0)) (by (with_reducible repeat (first |  refine zKn ?_ _|  refine zKd ?_|  refine zKa ?_ _)); exact BK308.out) hb); clear hb hbox hg; have hnb17 := NB308_309.out; have hnc17 := NB309_308.out; have hcz18_0 : w16.cell? ⟨gb308, 0, none⟩ = some (.int .i64 a0_0) := (zKc BK308.out 0).trans rfl; have hcz18_1 : w16.cell? ⟨gb308, 1, none⟩ = some (.int .i64 a0_1) := (zKc BK308.out 1).trans rfl; have hcz18_2 : w16.cell? ⟨gb308, 2, none⟩ = some (.int .i64 a0_2) := (zKc BK308.out 2).trans rfl; have hfz18_0 := zKf BK308.out 0; have hfz18_1 := zKf BK308.out 1; have hfz18_2 := zKf BK308.out 2; have hcz19_0 : w16.cell? ⟨gb309, 0, none⟩ = some (.int .i64 a1_0) := (zKc BK309.out 0).trans rfl; have hcz19_1 : w16.cell? ⟨gb309, 1, none⟩ = some (.int .i64 a1_1) := (zKc BK309.out 1).trans rfl; have hcz19_2 : w16.cell? ⟨gb309, 2, none⟩ = some (.int .i64 a1_2) := (zKc BK309.out 2).trans rfl; have hfz19_0 := zKf BK309.out 0; have hfz19_1 := zKf BK309.out 1; have hfz19_2 := zKf BK309.out 2))
   go_ret
   exact ⟨by first | rfl | (simp [errW_none, errW_some] <;> rfl) | (simp [*, errW_none, errW_some] <;> rfl), by exact uT HB.out⟩


mutual
def r4_Right.l0 : Nat → Int → Int → List (S43) → Option (Int)
 | 0, _, _, _ => none
 | k + 1, x4, x311000, x311001 => if x4 < (x311001.length : Int) then (if 0 ≤ x4 then ((r4_edge.f k x311000 ((rd_T43 x311001 x4).f0) ((rd_T43 x311001 x4).f1) ((rd_T43 x311001 x4).f2)).bind fun t313 => (if t313 = 0 then (if ((rd_T43 x311001 x4).f0) > ((rd_T43 x311001 x4).f1) then (some 1) else (if x4 > 0 then (if 0 ≤ (wrap64 (x4 - 1)) then (if (wrap64 (x4 - 1)) < (x311001.length : Int) then ((r4_below.f ((rd_T43 x311001 (wrap64 (x4 - 1))).f0) ((rd_T43 x311001 (wrap64 (x4 - 1))).f1) ((rd_T43 x311001 (wrap64 (x4 - 1))).f2) ((rd_T43 x311001 x4).f0) ((rd_T43 x311001 x4).f1) ((rd_T43 x311001 x4).f2)).bind fun t318 => (r4_Right.j1 k x4 (!t318) x311000 x311001)) else (none)) else (none)) else (r4_Right.j1 k x4 false x311000 x311001))) else (some t313))) else (none)) else (some 0)
def r4_Right.j1 : Nat → Int → Bool → Int → List (S43) → Option (Int)
 | 0, _, _, _, _ => none
 | k + 1, x4, x62, x311000, x311001 => if x62 = true then (if 0 ≤ x4 then (if x4 < (x311001.length : Int) then (if 0 ≤ (wrap64 (x4 - 1)) then (if (wrap64 (x4 - 1)) < (x311001.length : Int) then ((r4_below.f ((rd_T43 x311001 x4).f0) ((rd_T43 x311001 x4).f1) ((rd_T43 x311001 x4).f2) ((rd_T43 x311001 (wrap64 (x4 - 1))).f0) ((rd_T43 x311001 (wrap64 (x4 - 1))).f1) ((rd_T43 x311001 (wrap64 (x4 - 1))).f2)).bind fun t321 => (if t321 = true then (some 1) else (some 7))) else (none)) else (none)) else (none)) else (none)) else (r4_Right.l0 k (wrap64 (x4 + 1)) x311000 x311001)
end
def r4_Right.f (k : Nat) (a0_0 : Int) (l0_1 : List (S43)) : Option (Int) := (r4_many.f a0_0 (l0_1.length : Int)).bind fun t311 => (if t311 = 0 then (r4_Right.l0 k 0 a0_0 l0_1) else (some t311))
def r4_Right.T7 : Bool × List (List Nat × List Nat) := (true, [([], []), ([0], [0]), ([], []), ([2], [2]), ([], []), ([3, 4], [3, 4]), ([5], [5]), ([1, 6], [1, 6]), ([7, 7, 0, 1, 2, 3, 4, 5, 6, 7], [7])])
def r4_Right.B7 : List Nat := [0, 1, 0, 4, 0, 28, 60, 127, 255]
theorem r4_Right.tab7 : rtab .any (opsOf Try.f10 7) = r4_Right.T7 := by kernel_rfl
theorem r4_Right.bits7 : waitsOk r4_Right.T7.2 r4_Right.B7 = true := by kernel_rfl
def r4_Right.T10 : Bool × List (List Nat × List Nat) := (true, [([], []), ([0], [0]), ([], []), ([1, 2], [1, 2]), ([3], [3]), ([4], [4]), ([], []), ([6], [6]), ([], []), ([7, 8], [7, 8]), ([9], [9]), ([10], [10]), ([5, 11], [5, 11])])
def r4_Right.B10 : List Nat := [0, 1, 0, 7, 15, 31, 0, 64, 0, 448, 960, 1984, 4095]
theorem r4_Right.tab10 : rtab .any (opsOf Try.f10 10) = r4_Right.T10 := by kernel_rfl
theorem r4_Right.bits10 : waitsOk r4_Right.T10.2 r4_Right.B10 = true := by kernel_rfl
def r4_Right.T12 : Bool × List (List Nat × List Nat) := (true, [([], []), ([0], [0]), ([1], [1]), ([2], [2]), ([3, 2], [2, 3]), ([2], [2]), ([5, 2], [2, 5]), ([4, 6, 2], [2, 4, 6]), ([7, 2], [2, 7]), ([2], [2]), ([9, 2], [2, 9]), ([2], [2]), ([10, 11, 2], [2, 10, 11]), ([12, 2], [2, 12]), ([8, 13, 2, 2], [2, 8, 13]), ([14, 2], [2, 14]), ([2, 15], [2, 15])])
def r4_Right.B12 : List Nat := [0, 1, 3, 7, 15, 7, 39, 127, 255, 7, 519, 7, 3591, 7687, 16383, 32767, 65535]
theorem r4_Right.tab12 : rtab .any (opsOf Try.f10 12) = r4_Right.T12 := by kernel_rfl
theorem r4_Right.bits12 : waitsOk r4_Right.T12.2 r4_Right.B12 = true := by kernel_rfl
def r4_Right.T13 : Bool × List (List Nat × List Nat) := (true, [([], []), ([0], [0]), ([], []), ([1, 2], [1, 2]), ([3], [3]), ([], []), ([5], [5]), ([], []), ([7], [7]), ([6, 8], [6, 8]), ([9], [9]), ([4, 10], [4, 10])])
def r4_Right.B13 : List Nat := [0, 1, 0, 7, 15, 0, 32, 0, 128, 480, 992, 2047]
theorem r4_Right.tab13 : rtab .any (opsOf Try.f10 13) = r4_Right.T13 := by kernel_rfl
theorem r4_Right.bits13 : waitsOk r4_Right.T13.2 r4_Right.B13 = true := by kernel_rfl
theorem r4_Right.calls (k : Nat) (a0_0 : Int) (A0_1 : Option Addr) (c0_1 : Nat) (l0_1 : List (S43)) (r : Int) (w : World) (hr0_1 : Kd.C k43 w A0_1 l0_1.length l0_1) (hc0_1 : l0_1.length ≤ c0_1) (h : r4_Right.f k a0_0 l0_1 = some r) :
  Calls Try.prog 10 #[.agg #[.int .i64 a0_0, .slice A0_1 l0_1.length c0_1]] w fun e w' => e = .returned (.int .i64 r) ∧ Below w.heap.size w w' := by
 have hu24 := Try.underlying24
 have hu43 := Try.underlying43
 have HR0_1 := zMk hr0_1
 have HC0_1 := zMk hc0_1
 clear hr0_1 hc0_1
 have HB := zMk (Below.refl w.heap.size w)
 have H : ((r4_many.f a0_0 (l0_1.length : Int)).bind fun t311 => (if t311 = 0 then (r4_Right.l0 k 0 a0_0 l0_1) else (some t311))) = some r := h
 clear h
 replace H := bnd H
 obtain ⟨t311, A20, H⟩ := H
 have A2 := zMk A20
 clear A20
 by_cases c3 : t311 = 0
 ·rw [if_pos c3] at H
  have c3b0 : (t311 == 0) = true := beq_iff_eq.mpr c3
  have c3b1 : (t311 != 0) = false := bne_eq_false_iff_eq.mpr c3
  clear c3
  have H' := zMk H
  clear H
  go_enter Try.func10, Try.ntmps10
  go_wp2_with (first | ((with_reducible refine gate_dst (N:=1) rfl ?_); refine box_event ?hg (N:=1) ?hd (cs:=#[.int .i64 a0_0, .slice A0_1 l0_1.length c0_1]) (t:=24) ?hr ?_; (case hd => rfl); (case hg => rfl); (case hr => first | (go_simp; done)|(go_simp; rfl)|(go_simp; rw [show ∀ x : Int, IntKind.u32.wrap (IntKind.u8.wrap x) = x % 256 from fun x => (by show (x % 256) % 4294967296 = x % 256; omega)])); intro gb310 hg w4 hbox hb; have BK310 := zMk (hbox); have GW310 := zMk ((by rw [hg]; exact (zBs (by exact uT HB.out)) : w.heap.size ≤ gb310)); have GE310 := zMk ((by rw [hg]; exact (zBs (by exact uT HB.out)) : w.heap.size ≤ gb310)); have IGE310 := ownGe GE310.out; replace HB := zMk (zBt (by exact uT HB.out) hb); clear hb hbox hg; have hcz5_0 : w4.cell? ⟨gb310, 0, none⟩ = some (.int .i64 a0_0) := (zKc BK310.out 0).trans rfl; have hcz5_1 : w4.cell? ⟨gb310, 1, none⟩ = some (.slice A0_1 l0_1.length c0_1) := (zKc BK310.out 1).trans rfl; have hfz5_0 := zKf BK310.out 0; have hfz5_1 := zKf BK310.out 1)|((with_reducible refine gate_callee (f:=24) rfl ?_); refine goesL_ (some 11) rfl rfl Try.func24 (by kernel_rfl) rfl #[.int .i64 a0_0, .int .i64 (l0_1.length : Int)] rfl (by (try simp only [zMa, zMc, zMn]); first |  done|  rfl|  (simp only [zLd, zLt]; rfl)) ?_; (with_reducible refine (r4_many.calls a0_0 (l0_1.length : Int) t311 _ A2.out).mono ?_); rintro e w' ⟨rfl, ⟨nd, rfl⟩⟩; refine ⟨_, rfl, ?_⟩))
  go_loopg [4] k (fun kq v4 w' => ∃ (x4_1 : Int), v4 = .int .i64 x4_1 ∧ Aside0 (r4_Right.l0 kq x4_1 a0_0 l0_1 = some r) ∧ Aside0 (kq ≤ k) ∧ Aside0 (w'.heap[gb310]? = some (.cells #[.int .i64 a0_0, (.slice A0_1 l0_1.length c0_1)] 24 (0, 0))) ∧ Aside0 (Below w.heap.size w w'))
  case atStart => exact ⟨(0), (by first | rfl | (simp; done) | (simp [*]; done)), H', ⟨Nat.le_refl _⟩, ⟨by (with_reducible repeat (first | refine zKn ?_ _ | refine zKd ?_ | refine zKa ?_ _)); exact BK310.out⟩, ⟨by exact uT HB.out⟩⟩
  clear H'
  obtain ⟨x4_1, rfl, HA, HK1, BK310, HB⟩ := hrel
  rcases gk with _ | k1
  ·exact absurd HA.out (by simp [r4_Right.l0])
  have H := HA.out
  clear HA
  simp only [r4_Right.l0] at H
  by_cases c6 : x4_1 < (l0_1.length : Int)
  ·rw [if_pos c6] at H
   have c6b0 : decide (x4_1 < (l0_1.length : Int)) = true := decide_eq_true c6
   clear c6
   by_cases c7 : 0 ≤ x4_1
   rotate_left
   ·rw [if_neg c7] at H; exact absurd H (by simp)
   rw [if_pos c7] at H
   have c7b0 : decide (0 ≤ x4_1) = true := decide_eq_true c7
   clear c7
   replace H := bnd H
   obtain ⟨t313, A80, H⟩ := H
   have A8 := zMk A80
   clear A80
   by_cases c9 : t313 = 0
   ·rw [if_pos c9] at H
    have c9b0 : (t313 == 0) = true := beq_iff_eq.mpr c9
    have c9b1 : (t313 != 0) = false := bne_eq_false_iff_eq.mpr c9
    clear c9
    by_cases c10 : ((rd_T43 l0_1 x4_1).f0) > ((rd_T43 l0_1 x4_1).f1)
    ·rw [if_pos c10] at H
     have c10b0 : decide (((rd_T43 l0_1 x4_1).f1) < ((rd_T43 l0_1 x4_1).f0)) = true := decide_eq_true c10
     clear c10
     obtain rfl := zOi H
     have hcz11_0 : wr.cell? ⟨gb310, 0, none⟩ = some (.int .i64 a0_0) := (zKc BK310.out 0).trans rfl
     have hcz11_1 : wr.cell? ⟨gb310, 1, none⟩ = some (.slice A0_1 l0_1.length c0_1) := (zKc BK310.out 1).trans rfl
     have hfz11_0 := zKf BK310.out 0
     have hfz11_1 := zKf BK310.out 1
     try go_wp2
     replace BK310 := zMk (zKd BK310.out)
     replace HB := zMk (zBd HB.out)
     have p312 : 0 ≤ (x4_1 : Int) := of_decide_eq_true (by assumption)
     have q312 : x4_1 < (l0_1.length : Int) := of_decide_eq_true (by assumption)
     obtain ⟨ad312, e312, hx312_0, hx312_1, hx312_2⟩ := at_T43 HR0_1.out x4_1 p312 q312
     have hw312_2 := hx312_2
     have hw312_1 := hx312_1
     have hw312_0 := hx312_0
     cases e312
     replace hx312_0 := pw_cell_below HB.out hx312_0
     replace hx312_1 := pw_cell_below HB.out hx312_1
     replace hx312_2 := pw_cell_below HB.out hx312_2
     replace p312 := eq_true p312
     replace q312 := eq_true q312
     refine start_ (n:=9) (S:=fun w' => w'.cell? ⟨gb310, 0, none⟩ = some (.int .i64 a0_0) ∧ w'.cell? ⟨gb310, 1, none⟩ = some (.slice (some ad312) l0_1.length c0_1) ∧ w'.cell? (ad312.add ((x4_1).toNat * 3)) = some (.int .i64 ((rd_T43 l0_1 x4_1).f0)) ∧ w'.cell? ⟨(ad312.add ((x4_1).toNat * 3)).block, (ad312.add ((x4_1).toNat * 3)).off + 1, none⟩ = some (.int .i64 ((rd_T43 l0_1 x4_1).f1)) ∧ w'.cell? ⟨(ad312.add ((x4_1).toNat * 3)).block, (ad312.add ((x4_1).toNat * 3)).off + 2, none⟩ = some (.int .i64 ((rd_T43 l0_1 x4_1).f2))) (ds:=[]) #[false,false,false,false,false,false,false,false,false] (by kernel_rfl) rfl rfl ⟨(zKc BK310.out 0).trans rfl, (zKc BK310.out 1).trans rfl, (pw_cell_below HB.out hw312_0), (pw_cell_below HB.out hw312_1), (pw_cell_below HB.out hw312_2)⟩ (fun hHeld => ?_); refine with_tabW r4_Right.tab7 r4_Right.bits7 (fun HT_ HW_ => ?_)
     generalize wr.drew = w12 at BK310 HB hx312_0 hx312_1 hx312_2 hHeld ⊢
     refine pure_ (i:=0) (N:=some 22) (v:=?_) (a' := ?_) #[true,false,false,false,false,false,false,false,false] rfl rfl (any_of HT_.out (by kernel_rfl)) (fun _ _ _ h => h) (Or.inl ⟨by rfl, ?_⟩) ?_ ?_
     rotate_left
     ·intro w'
      go_simp
      with_reducible rfl
     rotate_left
     ·simp only [Act.put, zSa, zSb, zSc, i64_w, i32_w]
      rfl
     refine pure_ (i:=2) (N:=some 24) (v:=?_) (a' := ?_) #[true,false,true,false,false,false,false,false,false] rfl rfl (any_of HT_.out (by kernel_rfl)) (fun _ _ _ h => h) (Or.inl ⟨by rfl, ?_⟩) ?_ ?_
     rotate_left
     ·intro w'
      go_simp
      with_reducible rfl
     rotate_left
     ·simp only [Act.put, zSa, zSb, zSc, i64_w, i32_w]
      rfl
     refine pure_ (i:=4) (N:=some 26) (v:=?_) (a' := ?_) #[true,false,true,false,true,false,false,false,false] rfl rfl (any_of HT_.out (by kernel_rfl)) (fun _ _ _ h => h) (Or.inl ⟨by rfl, ?_⟩) ?_ ?_
     rotate_left
     ·intro w'
      go_simp
      with_reducible rfl
     rotate_left
     ·simp only [Act.put, zSa, zSb, zSc, i64_w, i32_w]
      rfl
     refine take_ (i:=1) (N:=some 23) (v:=?_) (a' := ?_) #[true,true,true,false,true,false,false,false,false] rfl rfl (take_ofW HT_.out HW_.out (by kernel_rfl)) (fun _ _ _ h => h) (Or.inl ⟨by rfl, ?_⟩) hHeld ?_ ?_
     rotate_left
     ·rintro w' ⟨s0, s1, s2, s3, s4⟩
      go_simp
      with_reducible rfl
     rotate_left
     ·simp only [Act.put, zSa, zSb, zSc, i64_w, i32_w]
      rfl
     refine take_ (i:=3) (N:=some 25) (v:=?_) (a' := ?_) #[true,true,true,true,true,false,false,false,false] rfl rfl (take_ofW HT_.out HW_.out (by kernel_rfl)) (fun _ _ _ h => h) (Or.inl ⟨by rfl, ?_⟩) hHeld ?_ ?_
     rotate_left
     ·rintro w' ⟨s0, s1, s2, s3, s4⟩
      go_simp
      with_reducible rfl
     rotate_left
     ·simp only [Act.put, zSa, zSb, zSc, i64_w, i32_w]
      rfl
     refine pure_ (i:=5) (N:=some 27) (v:=?_) (a' := ?_) #[true,true,true,true,true,true,false,false,false] rfl rfl (any_of HT_.out (by kernel_rfl)) (fun _ _ _ h => h) (Or.inl ⟨by rfl, ?_⟩) ?_ ?_
     rotate_left
     ·intro w'
      go_simp
      with_reducible rfl
     rotate_left
     ·simp only [Act.put, zSa, zSb, zSc, i64_w, i32_w]
      rfl
     refine take_ (i:=6) (N:=some 28) (v:=?_) (a' := ?_) #[true,true,true,true,true,true,true,false,false] rfl rfl (take_ofW HT_.out HW_.out (by kernel_rfl)) (fun _ _ _ h => h) (Or.inl ⟨by rfl, ?_⟩) hHeld ?_ ?_
     rotate_left
     ·rintro w' ⟨s0, s1, s2, s3, s4⟩
      go_simp
      with_reducible rfl
     rotate_left
     ·simp only [Act.put, zSa, zSb, zSc, i64_w, i32_w]
      rfl
     refine one_ (i:=7) (N:=some 29) #[true,true,true,true,true,true,true,true,false] rfl rfl (one_of HT_.out (by kernel_rfl)) (by decide) (fun K hK => ?_)
     refine goes_ Try.func25 (by kernel_rfl) rfl #[.int .i64 a0_0, .agg #[.int .i64 ((rd_T43 l0_1 x4_1).f0), .int .i64 ((rd_T43 l0_1 x4_1).f1), .int .i64 ((rd_T43 l0_1 x4_1).f2)]] (by rfl) rfl rfl (by (try simp only [zMa, zMc, zMn]); first | done | rfl | (simp only [zLd, zLt]; rfl)) ?_
     with_reducible refine (r4_edge.calls k1 a0_0 ((rd_T43 l0_1 x4_1).f0) ((rd_T43 l0_1 x4_1).f1) ((rd_T43 l0_1 x4_1).f2) t313 _ A8.out).mono ?_
     rintro e w13 ⟨rfl, hb⟩
     refine ⟨_, rfl, ?_⟩
     replace BK310 := zMk (zKb (g:=gb310) (o:=.cells #[.int .i64 a0_0, .slice (some ad312) l0_1.length c0_1] 24 (0, 0)) (by (with_reducible repeat (first | refine zKn ?_ _ | refine zKd ?_ | refine zKa ?_ _)); exact BK310.out) hb)
     replace HB := zMk (zBt (by exact uT HB.out) hb)
     refine hK.out _ _ ⟨(zKc BK310.out 0).trans rfl, (zKc BK310.out 1).trans rfl, (pw_cell_below HB.out hw312_0), (pw_cell_below HB.out hw312_1), (pw_cell_below HB.out hw312_2)⟩ (fun hHeld => ?_)
     clear hK K
     refine norm_ (a' := ?_) ?_ ?_
     rotate_left
     ·show Act.put _ (some 29) _ = _
      simp only [Act.put, zSa, zSb, zSc, i64_w, i32_w]
      rfl
     refine pure_ (i:=8) (N:=some 5) (v:=?_) (a' := ?_) #[true,true,true,true,true,true,true,true,true] rfl rfl (any_of HT_.out (by kernel_rfl)) (fun _ _ _ h => h) (Or.inl ⟨by rfl, ?_⟩) ?_ ?_
     rotate_left
     ·intro w'
      go_simp
      with_reducible rfl
     rotate_left
     ·simp only [Act.put, zSa, zSb, zSc, i64_w, i32_w]
      rfl
     refine done_ (done_of HT_.out (by kernel_rfl)) ?_
     try go_wp2
     replace BK310 := zMk (zKd BK310.out)
     replace HB := zMk (zBd HB.out)
     have p314 : 0 ≤ (x4_1 : Int) := of_decide_eq_true (by assumption)
     have q314 : x4_1 < (l0_1.length : Int) := of_decide_eq_true (by assumption)
     obtain ⟨ad314, e314, hx314_0, hx314_1, hx314_2⟩ := at_T43 HR0_1.out x4_1 p314 q314
     have hw314_2 := hx314_2
     have hw314_1 := hx314_1
     have hw314_0 := hx314_0
     obtain rfl : ad312 = ad314 := (by injection e314)
     replace hx314_0 := pw_cell_below HB.out hx314_0
     replace hx314_1 := pw_cell_below HB.out hx314_1
     replace hx314_2 := pw_cell_below HB.out hx314_2
     replace p314 := eq_true p314
     replace q314 := eq_true q314
     have p315 : 0 ≤ (x4_1 : Int) := of_decide_eq_true (by assumption)
     have q315 : x4_1 < (l0_1.length : Int) := of_decide_eq_true (by assumption)
     obtain ⟨ad315, e315, hx315_0, hx315_1, hx315_2⟩ := at_T43 HR0_1.out x4_1 p315 q315
     have hw315_2 := hx315_2
     have hw315_1 := hx315_1
     have hw315_0 := hx315_0
     obtain rfl : ad312 = ad315 := (by injection e315)
     replace hx315_0 := pw_cell_below HB.out hx315_0
     replace hx315_1 := pw_cell_below HB.out hx315_1
     replace hx315_2 := pw_cell_below HB.out hx315_2
     replace p315 := eq_true p315
     replace q315 := eq_true q315
     refine start_ (n:=13) (S:=fun w' => w'.cell? ⟨gb310, 0, none⟩ = some (.int .i64 a0_0) ∧ w'.cell? ⟨gb310, 1, none⟩ = some (.slice (some ad312) l0_1.length c0_1) ∧ w'.cell? (ad312.add ((x4_1).toNat * 3)) = some (.int .i64 ((rd_T43 l0_1 x4_1).f0)) ∧ w'.cell? ⟨(ad312.add ((x4_1).toNat * 3)).block, (ad312.add ((x4_1).toNat * 3)).off + 1, none⟩ = some (.int .i64 ((rd_T43 l0_1 x4_1).f1)) ∧ w'.cell? ⟨(ad312.add ((x4_1).toNat * 3)).block, (ad312.add ((x4_1).toNat * 3)).off + 2, none⟩ = some (.int .i64 ((rd_T43 l0_1 x4_1).f2)) ∧ w'.cell? (ad312.add ((x4_1).toNat * 3)) = some (.int .i64 ((rd_T43 l0_1 x4_1).f0)) ∧ w'.cell? ⟨(ad312.add ((x4_1).toNat * 3)).block, (ad312.add ((x4_1).toNat * 3)).off + 1, none⟩ = some (.int .i64 ((rd_T43 l0_1 x4_1).f1)) ∧ w'.cell? ⟨(ad312.add ((x4_1).toNat * 3)).block, (ad312.add ((x4_1).toNat * 3)).off + 2, none⟩ = some (.int .i64 ((rd_T43 l0_1 x4_1).f2))) (ds:=[]) #[false,false,false,false,false,false,false,false,false,false,false,false,false] (by kernel_rfl) rfl rfl ⟨(zKc BK310.out 0).trans rfl, (zKc BK310.out 1).trans rfl, (pw_cell_below HB.out hw314_0), (pw_cell_below HB.out hw314_1), (pw_cell_below HB.out hw314_2), (pw_cell_below HB.out hw315_0), (pw_cell_below HB.out hw315_1), (pw_cell_below HB.out hw315_2)⟩ (fun hHeld => ?_); refine with_tabW r4_Right.tab10 r4_Right.bits10 (fun HT_ HW_ => ?_)
     generalize w13.drew = w14 at BK310 HB hx314_0 hx314_1 hx314_2 hx315_0 hx315_1 hx315_2 hHeld ⊢
     refine pure_ (i:=0) (N:=some 33) (v:=?_) (a' := ?_) #[true,false,false,false,false,false,false,false,false,false,false,false,false] rfl rfl (any_of HT_.out (by kernel_rfl)) (fun _ _ _ h => h) (Or.inl ⟨by rfl, ?_⟩) ?_ ?_
     rotate_left
     ·intro w'
      go_simp
      with_reducible rfl
     rotate_left
     ·simp only [Act.put, zSa, zSb, zSc, i64_w, i32_w]
      rfl
     refine pure_ (i:=2) (N:=some 35) (v:=?_) (a' := ?_) #[true,false,true,false,false,false,false,false,false,false,false,false,false] rfl rfl (any_of HT_.out (by kernel_rfl)) (fun _ _ _ h => h) (Or.inl ⟨by rfl, ?_⟩) ?_ ?_
     rotate_left
     ·intro w'
      go_simp
      with_reducible rfl
     rotate_left
     ·simp only [Act.put, zSa, zSb, zSc, i64_w, i32_w]
      rfl
     refine pure_ (i:=6) (N:=some 39) (v:=?_) (a' := ?_) #[true,false,true,false,false,false,true,false,false,false,false,false,false] rfl rfl (any_of HT_.out (by kernel_rfl)) (fun _ _ _ h => h) (Or.inl ⟨by rfl, ?_⟩) ?_ ?_
     rotate_left
     ·intro w'
      go_simp
      with_reducible rfl
     rotate_left
     ·simp only [Act.put, zSa, zSb, zSc, i64_w, i32_w]
      rfl
     refine pure_ (i:=8) (N:=some 41) (v:=?_) (a' := ?_) #[true,false,true,false,false,false,true,false,true,false,false,false,false] rfl rfl (any_of HT_.out (by kernel_rfl)) (fun _ _ _ h => h) (Or.inl ⟨by rfl, ?_⟩) ?_ ?_
     rotate_left
     ·intro w'
      go_simp
      with_reducible rfl
     rotate_left
     ·simp only [Act.put, zSa, zSb, zSc, i64_w, i32_w]
      rfl
     refine take_ (i:=1) (N:=some 34) (v:=?_) (a' := ?_) #[true,true,true,false,false,false,true,false,true,false,false,false,false] rfl rfl (take_ofW HT_.out HW_.out (by kernel_rfl)) (fun _ _ _ h => h) (Or.inl ⟨by rfl, ?_⟩) hHeld ?_ ?_
     rotate_left
     ·rintro w' ⟨s0, s1, s2, s3, s4, s5, s6, s7⟩
      go_simp
      with_reducible rfl
     rotate_left
     ·simp only [Act.put, zSa, zSb, zSc, i64_w, i32_w]
      rfl
     refine pure_ (i:=3) (N:=some 36) (v:=?_) (a' := ?_) #[true,true,true,true,false,false,true,false,true,false,false,false,false] rfl rfl (any_of HT_.out (by kernel_rfl)) (fun _ _ _ h => h) (Or.inl ⟨by rfl, ?_⟩) ?_ ?_
     rotate_left
     ·intro w'
      go_simp
      with_reducible rfl
     rotate_left
     ·simp only [Act.put, zSa, zSb, zSc, i64_w, i32_w]
      rfl
     refine pure_ (i:=4) (N:=some 37) (v:=?_) (a' := ?_) #[true,true,true,true,true,false,true,false,true,false,false,false,false] rfl rfl (any_of HT_.out (by kernel_rfl)) (fun _ _ _ h => h) (Or.inl ⟨by rfl, ?_⟩) ?_ ?_
     rotate_left
     ·intro w'
      go_simp
      with_reducible rfl
     rotate_left
     ·simp only [Act.put, zSa, zSb, zSc, i64_w, i32_w]
      rfl
     refine take_ (i:=5) (N:=some 38) (v:=?_) (a' := ?_) #[true,true,true,true,true,true,true,false,true,false,false,false,false] rfl rfl (take_ofW HT_.out HW_.out (by kernel_rfl)) (fun _ _ _ h => h) (Or.inl ⟨by rfl, ?_⟩) hHeld ?_ ?_
     rotate_left
     ·rintro w' ⟨s0, s1, s2, s3, s4, s5, s6, s7⟩
      go_simp
      with_reducible rfl
     rotate_left
     ·simp only [Act.put, zSa, zSb, zSc, i64_w, i32_w]
      rfl
     refine take_ (i:=7) (N:=some 40) (v:=?_) (a' := ?_) #[true,true,true,true,true,true,true,true,true,false,false,false,false] rfl rfl (take_ofW HT_.out HW_.out (by kernel_rfl)) (fun _ _ _ h => h) (Or.inl ⟨by rfl, ?_⟩) hHeld ?_ ?_
     rotate_left
     ·rintro w' ⟨s0, s1, s2, s3, s4, s5, s6, s7⟩
      go_simp
      with_reducible rfl
     rotate_left
     ·simp only [Act.put, zSa, zSb, zSc, i64_w, i32_w]
      rfl
     refine pure_ (i:=9) (N:=some 42) (v:=?_) (a' := ?_) #[true,true,true,true,true,true,true,true,true,true,false,false,false] rfl rfl (any_of HT_.out (by kernel_rfl)) (fun _ _ _ h => h) (Or.inl ⟨by rfl, ?_⟩) ?_ ?_
     rotate_left
     ·intro w'
      go_simp
      with_reducible rfl
     rotate_left
     ·simp only [Act.put, zSa, zSb, zSc, i64_w, i32_w]
      rfl
     refine pure_ (i:=10) (N:=some 43) (v:=?_) (a' := ?_) #[true,true,true,true,true,true,true,true,true,true,true,false,false] rfl rfl (any_of HT_.out (by kernel_rfl)) (fun _ _ _ h => h) (Or.inl ⟨by rfl, ?_⟩) ?_ ?_
     rotate_left
     ·intro w'
      go_simp
      with_reducible rfl
     rotate_left
     ·simp only [Act.put, zSa, zSb, zSc, i64_w, i32_w]
      rfl
     refine take_ (i:=11) (N:=some 44) (v:=?_) (a' := ?_) #[true,true,true,true,true,true,true,true,true,true,true,true,false] rfl rfl (take_ofW HT_.out HW_.out (by kernel_rfl)) (fun _ _ _ h => h) (Or.inl ⟨by rfl, ?_⟩) hHeld ?_ ?_
     rotate_left
     ·rintro w' ⟨s0, s1, s2, s3, s4, s5, s6, s7⟩
      go_simp
      with_reducible rfl
     rotate_left
     ·simp only [Act.put, zSa, zSb, zSc, i64_w, i32_w]
      rfl
     refine pure_ (i:=12) (N:=some 45) (v:=?_) (a' := ?_) #[true,true,true,true,true,true,true,true,true,true,true,true,true] rfl rfl (any_of HT_.out (by kernel_rfl)) (fun _ _ _ h => h) (Or.inl ⟨by rfl, ?_⟩) ?_ ?_
     rotate_left
     ·intro w'
      go_simp
      with_reducible rfl
     rotate_left
     ·simp only [Act.put, zSa, zSb, zSc, i64_w, i32_w]
      rfl
     refine done_ (done_of HT_.out (by kernel_rfl)) ?_
     try go_wp2
     go_ret
     exact ⟨by first | rfl | (simp [errW_none, errW_some] <;> rfl) | (simp [*, errW_none, errW_some] <;> rfl), by exact uT HB.out⟩
    ·rw [if_neg c10] at H
     have c10b0 : decide (((rd_T43 l0_1 x4_1).f1) < ((rd_T43 l0_1 x4_1).f0)) = false := decide_eq_false c10
     clear c10
     have HC15 := zMk H
     clear H
     have hcz16_0 : wr.cell? ⟨gb310, 0, none⟩ = some (.int .i64 a0_0) := (zKc BK310.out 0).trans rfl
     have hcz16_1 : wr.cell? ⟨gb310, 1, none⟩ = some (.slice A0_1 l0_1.length c0_1) := (zKc BK310.out 1).trans rfl
     have hfz16_0 := zKf BK310.out 0
     have hfz16_1 := zKf BK310.out 1
     try go_wp2
     replace BK310 := zMk (zKd BK310.out)
     replace HB := zMk (zBd HB.out)
     have p312 : 0 ≤ (x4_1 : Int) := of_decide_eq_true (by assumption)
     have q312 : x4_1 < (l0_1.length : Int) := of_decide_eq_true (by assumption)
     obtain ⟨ad312, e312, hx312_0, hx312_1, hx312_2⟩ := at_T43 HR0_1.out x4_1 p312 q312
     have hw312_2 := hx312_2
     have hw312_1 := hx312_1
     have hw312_0 := hx312_0
     cases e312
     replace hx312_0 := pw_cell_below HB.out hx312_0
     replace hx312_1 := pw_cell_below HB.out hx312_1
     replace hx312_2 := pw_cell_below HB.out hx312_2
     replace p312 := eq_true p312
     replace q312 := eq_true q312
     refine start_ (n:=9) (S:=fun w' => w'.cell? ⟨gb310, 0, none⟩ = some (.int .i64 a0_0) ∧ w'.cell? ⟨gb310, 1, none⟩ = some (.slice (some ad312) l0_1.length c0_1) ∧ w'.cell? (ad312.add ((x4_1).toNat * 3)) = some (.int .i64 ((rd_T43 l0_1 x4_1).f0)) ∧ w'.cell? ⟨(ad312.add ((x4_1).toNat * 3)).block, (ad312.add ((x4_1).toNat * 3)).off + 1, none⟩ = some (.int .i64 ((rd_T43 l0_1 x4_1).f1)) ∧ w'.cell? ⟨(ad312.add ((x4_1).toNat * 3)).block, (ad312.add ((x4_1).toNat * 3)).off + 2, none⟩ = some (.int .i64 ((rd_T43 l0_1 x4_1).f2))) (ds:=[]) #[false,false,false,false,false,false,false,false,false] (by kernel_rfl) rfl rfl ⟨(zKc BK310.out 0).trans rfl, (zKc BK310.out 1).trans rfl, (pw_cell_below HB.out hw312_0), (pw_cell_below HB.out hw312_1), (pw_cell_below HB.out hw312_2)⟩ (fun hHeld => ?_); refine with_tabW r4_Right.tab7 r4_Right.bits7 (fun HT_ HW_ => ?_)
     generalize wr.drew = w17 at BK310 HB hx312_0 hx312_1 hx312_2 hHeld ⊢
     refine pure_ (i:=0) (N:=some 22) (v:=?_) (a' := ?_) #[true,false,false,false,false,false,false,false,false] rfl rfl (any_of HT_.out (by kernel_rfl)) (fun _ _ _ h => h) (Or.inl ⟨by rfl, ?_⟩) ?_ ?_
     rotate_left
     ·intro w'
      go_simp
      with_reducible rfl
     rotate_left
     ·simp only [Act.put, zSa, zSb, zSc, i64_w, i32_w]
      rfl
     refine pure_ (i:=2) (N:=some 24) (v:=?_) (a' := ?_) #[true,false,true,false,false,false,false,false,false] rfl rfl (any_of HT_.out (by kernel_rfl)) (fun _ _ _ h => h) (Or.inl ⟨by rfl, ?_⟩) ?_ ?_
     rotate_left
     ·intro w'
      go_simp
      with_reducible rfl
     rotate_left
     ·simp only [Act.put, zSa, zSb, zSc, i64_w, i32_w]
      rfl
     refine pure_ (i:=4) (N:=some 26) (v:=?_) (a' := ?_) #[true,false,true,false,true,false,false,false,false] rfl rfl (any_of HT_.out (by kernel_rfl)) (fun _ _ _ h => h) (Or.inl ⟨by rfl, ?_⟩) ?_ ?_
     rotate_left
     ·intro w'
      go_simp
      with_reducible rfl
     rotate_left
     ·simp only [Act.put, zSa, zSb, zSc, i64_w, i32_w]
      rfl
     refine take_ (i:=1) (N:=some 23) (v:=?_) (a' := ?_) #[true,true,true,false,true,false,false,false,false] rfl rfl (take_ofW HT_.out HW_.out (by kernel_rfl)) (fun _ _ _ h => h) (Or.inl ⟨by rfl, ?_⟩) hHeld ?_ ?_
     rotate_left
     ·rintro w' ⟨s0, s1, s2, s3, s4⟩
      go_simp
      with_reducible rfl
     rotate_left
     ·simp only [Act.put, zSa, zSb, zSc, i64_w, i32_w]
      rfl
     refine take_ (i:=3) (N:=some 25) (v:=?_) (a' := ?_) #[true,true,true,true,true,false,false,false,false] rfl rfl (take_ofW HT_.out HW_.out (by kernel_rfl)) (fun _ _ _ h => h) (Or.inl ⟨by rfl, ?_⟩) hHeld ?_ ?_
     rotate_left
     ·rintro w' ⟨s0, s1, s2, s3, s4⟩
      go_simp
      with_reducible rfl
     rotate_left
     ·simp only [Act.put, zSa, zSb, zSc, i64_w, i32_w]
      rfl
     refine pure_ (i:=5) (N:=some 27) (v:=?_) (a' := ?_) #[true,true,true,true,true,true,false,false,false] rfl rfl (any_of HT_.out (by kernel_rfl)) (fun _ _ _ h => h) (Or.inl ⟨by rfl, ?_⟩) ?_ ?_
     rotate_left
     ·intro w'
      go_simp
      with_reducible rfl
     rotate_left
     ·simp only [Act.put, zSa, zSb, zSc, i64_w, i32_w]
      rfl
     refine take_ (i:=6) (N:=some 28) (v:=?_) (a' := ?_) #[true,true,true,true,true,true,true,false,false] rfl rfl (take_ofW HT_.out HW_.out (by kernel_rfl)) (fun _ _ _ h => h) (Or.inl ⟨by rfl, ?_⟩) hHeld ?_ ?_
     rotate_left
     ·rintro w' ⟨s0, s1, s2, s3, s4⟩
      go_simp
      with_reducible rfl
     rotate_left
     ·simp only [Act.put, zSa, zSb, zSc, i64_w, i32_w]
      rfl
     refine one_ (i:=7) (N:=some 29) #[true,true,true,true,true,true,true,true,false] rfl rfl (one_of HT_.out (by kernel_rfl)) (by decide) (fun K hK => ?_)
     refine goes_ Try.func25 (by kernel_rfl) rfl #[.int .i64 a0_0, .agg #[.int .i64 ((rd_T43 l0_1 x4_1).f0), .int .i64 ((rd_T43 l0_1 x4_1).f1), .int .i64 ((rd_T43 l0_1 x4_1).f2)]] (by rfl) rfl rfl (by (try simp only [zMa, zMc, zMn]); first | done | rfl | (simp only [zLd, zLt]; rfl)) ?_
     with_reducible refine (r4_edge.calls k1 a0_0 ((rd_T43 l0_1 x4_1).f0) ((rd_T43 l0_1 x4_1).f1) ((rd_T43 l0_1 x4_1).f2) t313 _ A8.out).mono ?_
     rintro e w18 ⟨rfl, hb⟩
     refine ⟨_, rfl, ?_⟩
     replace BK310 := zMk (zKb (g:=gb310) (o:=.cells #[.int .i64 a0_0, .slice (some ad312) l0_1.length c0_1] 24 (0, 0)) (by (with_reducible repeat (first | refine zKn ?_ _ | refine zKd ?_ | refine zKa ?_ _)); exact BK310.out) hb)
     replace HB := zMk (zBt (by exact uT HB.out) hb)
     refine hK.out _ _ ⟨(zKc BK310.out 0).trans rfl, (zKc BK310.out 1).trans rfl, (pw_cell_below HB.out hw312_0), (pw_cell_below HB.out hw312_1), (pw_cell_below HB.out hw312_2)⟩ (fun hHeld => ?_)
     clear hK K
     refine norm_ (a' := ?_) ?_ ?_
     rotate_left
     ·show Act.put _ (some 29) _ = _
      simp only [Act.put, zSa, zSb, zSc, i64_w, i32_w]
      rfl
     refine pure_ (i:=8) (N:=some 5) (v:=?_) (a' := ?_) #[true,true,true,true,true,true,true,true,true] rfl rfl (any_of HT_.out (by kernel_rfl)) (fun _ _ _ h => h) (Or.inl ⟨by rfl, ?_⟩) ?_ ?_
     rotate_left
     ·intro w'
      go_simp
      with_reducible rfl
     rotate_left
     ·simp only [Act.put, zSa, zSb, zSc, i64_w, i32_w]
      rfl
     refine done_ (done_of HT_.out (by kernel_rfl)) ?_
     try go_wp2
     replace BK310 := zMk (zKd BK310.out)
     replace HB := zMk (zBd HB.out)
     have p314 : 0 ≤ (x4_1 : Int) := of_decide_eq_true (by assumption)
     have q314 : x4_1 < (l0_1.length : Int) := of_decide_eq_true (by assumption)
     obtain ⟨ad314, e314, hx314_0, hx314_1, hx314_2⟩ := at_T43 HR0_1.out x4_1 p314 q314
     have hw314_2 := hx314_2
     have hw314_1 := hx314_1
     have hw314_0 := hx314_0
     obtain rfl : ad312 = ad314 := (by injection e314)
     replace hx314_0 := pw_cell_below HB.out hx314_0
     replace hx314_1 := pw_cell_below HB.out hx314_1
     replace hx314_2 := pw_cell_below HB.out hx314_2
     replace p314 := eq_true p314
     replace q314 := eq_true q314
     have p315 : 0 ≤ (x4_1 : Int) := of_decide_eq_true (by assumption)
     have q315 : x4_1 < (l0_1.length : Int) := of_decide_eq_true (by assumption)
     obtain ⟨ad315, e315, hx315_0, hx315_1, hx315_2⟩ := at_T43 HR0_1.out x4_1 p315 q315
     have hw315_2 := hx315_2
     have hw315_1 := hx315_1
     have hw315_0 := hx315_0
     obtain rfl : ad312 = ad315 := (by injection e315)
     replace hx315_0 := pw_cell_below HB.out hx315_0
     replace hx315_1 := pw_cell_below HB.out hx315_1
     replace hx315_2 := pw_cell_below HB.out hx315_2
     replace p315 := eq_true p315
     replace q315 := eq_true q315
     refine start_ (n:=13) (S:=fun w' => w'.cell? ⟨gb310, 0, none⟩ = some (.int .i64 a0_0) ∧ w'.cell? ⟨gb310, 1, none⟩ = some (.slice (some ad312) l0_1.length c0_1) ∧ w'.cell? (ad312.add ((x4_1).toNat * 3)) = some (.int .i64 ((rd_T43 l0_1 x4_1).f0)) ∧ w'.cell? ⟨(ad312.add ((x4_1).toNat * 3)).block, (ad312.add ((x4_1).toNat * 3)).off + 1, none⟩ = some (.int .i64 ((rd_T43 l0_1 x4_1).f1)) ∧ w'.cell? ⟨(ad312.add ((x4_1).toNat * 3)).block, (ad312.add ((x4_1).toNat * 3)).off + 2, none⟩ = some (.int .i64 ((rd_T43 l0_1 x4_1).f2)) ∧ w'.cell? (ad312.add ((x4_1).toNat * 3)) = some (.int .i64 ((rd_T43 l0_1 x4_1).f0)) ∧ w'.cell? ⟨(ad312.add ((x4_1).toNat * 3)).block, (ad312.add ((x4_1).toNat * 3)).off + 1, none⟩ = some (.int .i64 ((rd_T43 l0_1 x4_1).f1)) ∧ w'.cell? ⟨(ad312.add ((x4_1).toNat * 3)).block, (ad312.add ((x4_1).toNat * 3)).off + 2, none⟩ = some (.int .i64 ((rd_T43 l0_1 x4_1).f2))) (ds:=[]) #[false,false,false,false,false,false,false,false,false,false,false,false,false] (by kernel_rfl) rfl rfl ⟨(zKc BK310.out 0).trans rfl, (zKc BK310.out 1).trans rfl, (pw_cell_below HB.out hw314_0), (pw_cell_below HB.out hw314_1), (pw_cell_below HB.out hw314_2), (pw_cell_below HB.out hw315_0), (pw_cell_below HB.out hw315_1), (pw_cell_below HB.out hw315_2)⟩ (fun hHeld => ?_); refine with_tabW r4_Right.tab10 r4_Right.bits10 (fun HT_ HW_ => ?_)
     generalize w18.drew = w19 at BK310 HB hx314_0 hx314_1 hx314_2 hx315_0 hx315_1 hx315_2 hHeld ⊢
     refine pure_ (i:=0) (N:=some 33) (v:=?_) (a' := ?_) #[true,false,false,false,false,false,false,false,false,false,false,false,false] rfl rfl (any_of HT_.out (by kernel_rfl)) (fun _ _ _ h => h) (Or.inl ⟨by rfl, ?_⟩) ?_ ?_
     rotate_left
     ·intro w'
      go_simp
      with_reducible rfl
     rotate_left
     ·simp only [Act.put, zSa, zSb, zSc, i64_w, i32_w]
      rfl
     refine pure_ (i:=2) (N:=some 35) (v:=?_) (a' := ?_) #[true,false,true,false,false,false,false,false,false,false,false,false,false] rfl rfl (any_of HT_.out (by kernel_rfl)) (fun _ _ _ h => h) (Or.inl ⟨by rfl, ?_⟩) ?_ ?_
     rotate_left
     ·intro w'
      go_simp
      with_reducible rfl
     rotate_left
     ·simp only [Act.put, zSa, zSb, zSc, i64_w, i32_w]
      rfl
     refine pure_ (i:=6) (N:=some 39) (v:=?_) (a' := ?_) #[true,false,true,false,false,false,true,false,false,false,false,false,false] rfl rfl (any_of HT_.out (by kernel_rfl)) (fun _ _ _ h => h) (Or.inl ⟨by rfl, ?_⟩) ?_ ?_
     rotate_left
     ·intro w'
      go_simp
      with_reducible rfl
     rotate_left
     ·simp only [Act.put, zSa, zSb, zSc, i64_w, i32_w]
      rfl
     refine pure_ (i:=8) (N:=some 41) (v:=?_) (a' := ?_) #[true,false,true,false,false,false,true,false,true,false,false,false,false] rfl rfl (any_of HT_.out (by kernel_rfl)) (fun _ _ _ h => h) (Or.inl ⟨by rfl, ?_⟩) ?_ ?_
     rotate_left
     ·intro w'
      go_simp
      with_reducible rfl
     rotate_left
     ·simp only [Act.put, zSa, zSb, zSc, i64_w, i32_w]
      rfl
     refine take_ (i:=1) (N:=some 34) (v:=?_) (a' := ?_) #[true,true,true,false,false,false,true,false,true,false,false,false,false] rfl rfl (take_ofW HT_.out HW_.out (by kernel_rfl)) (fun _ _ _ h => h) (Or.inl ⟨by rfl, ?_⟩) hHeld ?_ ?_
     rotate_left
     ·rintro w' ⟨s0, s1, s2, s3, s4, s5, s6, s7⟩
      go_simp
      with_reducible rfl
     rotate_left
     ·simp only [Act.put, zSa, zSb, zSc, i64_w, i32_w]
      rfl
     refine pure_ (i:=3) (N:=some 36) (v:=?_) (a' := ?_) #[true,true,true,true,false,false,true,false,true,false,false,false,false] rfl rfl (any_of HT_.out (by kernel_rfl)) (fun _ _ _ h => h) (Or.inl ⟨by rfl, ?_⟩) ?_ ?_
     rotate_left
     ·intro w'
      go_simp
      with_reducible rfl
     rotate_left
     ·simp only [Act.put, zSa, zSb, zSc, i64_w, i32_w]
      rfl
     refine pure_ (i:=4) (N:=some 37) (v:=?_) (a' := ?_) #[true,true,true,true,true,false,true,false,true,false,false,false,false] rfl rfl (any_of HT_.out (by kernel_rfl)) (fun _ _ _ h => h) (Or.inl ⟨by rfl, ?_⟩) ?_ ?_
     rotate_left
     ·intro w'
      go_simp
      with_reducible rfl
     rotate_left
     ·simp only [Act.put, zSa, zSb, zSc, i64_w, i32_w]
      rfl
     refine take_ (i:=5) (N:=some 38) (v:=?_) (a' := ?_) #[true,true,true,true,true,true,true,false,true,false,false,false,false] rfl rfl (take_ofW HT_.out HW_.out (by kernel_rfl)) (fun _ _ _ h => h) (Or.inl ⟨by rfl, ?_⟩) hHeld ?_ ?_
     rotate_left
     ·rintro w' ⟨s0, s1, s2, s3, s4, s5, s6, s7⟩
      go_simp
      with_reducible rfl
     rotate_left
     ·simp only [Act.put, zSa, zSb, zSc, i64_w, i32_w]
      rfl
     refine take_ (i:=7) (N:=some 40) (v:=?_) (a' := ?_) #[true,true,true,true,true,true,true,true,true,false,false,false,false] rfl rfl (take_ofW HT_.out HW_.out (by kernel_rfl)) (fun _ _ _ h => h) (Or.inl ⟨by rfl, ?_⟩) hHeld ?_ ?_
     rotate_left
     ·rintro w' ⟨s0, s1, s2, s3, s4, s5, s6, s7⟩
      go_simp
      with_reducible rfl
     rotate_left
     ·simp only [Act.put, zSa, zSb, zSc, i64_w, i32_w]
      rfl
     refine pure_ (i:=9) (N:=some 42) (v:=?_) (a' := ?_) #[true,true,true,true,true,true,true,true,true,true,false,false,false] rfl rfl (any_of HT_.out (by kernel_rfl)) (fun _ _ _ h => h) (Or.inl ⟨by rfl, ?_⟩) ?_ ?_
     rotate_left
     ·intro w'
      go_simp
      with_reducible rfl
     rotate_left
     ·simp only [Act.put, zSa, zSb, zSc, i64_w, i32_w]
      rfl
     refine pure_ (i:=10) (N:=some 43) (v:=?_) (a' := ?_) #[true,true,true,true,true,true,true,true,true,true,true,false,false] rfl rfl (any_of HT_.out (by kernel_rfl)) (fun _ _ _ h => h) (Or.inl ⟨by rfl, ?_⟩) ?_ ?_
     rotate_left
     ·intro w'
      go_simp
      with_reducible rfl
     rotate_left
     ·simp only [Act.put, zSa, zSb, zSc, i64_w, i32_w]
      rfl
     refine take_ (i:=11) (N:=some 44) (v:=?_) (a' := ?_) #[true,true,true,true,true,true,true,true,true,true,true,true,false] rfl rfl (take_ofW HT_.out HW_.out (by kernel_rfl)) (fun _ _ _ h => h) (Or.inl ⟨by rfl, ?_⟩) hHeld ?_ ?_
     rotate_left
     ·rintro w' ⟨s0, s1, s2, s3, s4, s5, s6, s7⟩
      go_simp
      with_reducible rfl
     rotate_left
     ·simp only [Act.put, zSa, zSb, zSc, i64_w, i32_w]
      rfl
     refine pure_ (i:=12) (N:=some 45) (v:=?_) (a' := ?_) #[true,true,true,true,true,true,true,true,true,true,true,true,true] rfl rfl (any_of HT_.out (by kernel_rfl)) (fun _ _ _ h => h) (Or.inl ⟨by rfl, ?_⟩) ?_ ?_
     rotate_left
     ·intro w'
      go_simp
      with_reducible rfl
     rotate_left
     ·simp only [Act.put, zSa, zSb, zSc, i64_w, i32_w]
      rfl
     refine done_ (done_of HT_.out (by kernel_rfl)) ?_
     go_upto_region 12 with (fail)
     go_cut [62] (fun v62 wc => ∃ (kq : Nat) (x62_14 : Bool), v62 = .bool x62_14 ∧ Aside0 (r4_Right.j1 kq x4_1 x62_14 a0_0 l0_1 = some r) ∧ Aside0 (kq ≤ k1) ∧ Aside0 (wc.heap[gb310]? = some (.cells #[.int .i64 a0_0, (.slice (some ad312) l0_1.length c0_1)] 24 (0, 0))) ∧ Aside0 (Below w.heap.size w wc))
     case first =>
      have H := HC15.out
      clear HC15
      by_cases c20 : x4_1 > 0
      ·rw [if_pos c20] at H
       have c20b0 : decide (0 < x4_1) = true := decide_eq_true c20
       clear c20
       (first | rw [c20b0] | (simp only [i64_w, i32_w]; rw [c20b0]) | rw [c20b1] | skip)
       obtain ⟨ji21, hji21⟩ : ∃ j_ : Int, (wrap64 (x4_1 - 1)) = j_ := ⟨_, rfl⟩
       replace H : (if 0 ≤ (ji21) then (if (ji21) < (l0_1.length : Int) then ((r4_below.f ((rd_T43 l0_1 (ji21)).f0) ((rd_T43 l0_1 (ji21)).f1) ((rd_T43 l0_1 (ji21)).f2) ((rd_T43 l0_1 x4_1).f0) ((rd_T43 l0_1 x4_1).f1) ((rd_T43 l0_1 x4_1).f2)).bind fun t318 => (r4_Right.j1 k1 x4_1 (!t318) a0_0 l0_1)) else (none)) else (none)) = some r := by first | (rw [hji21] at H; exact H) | (simp only [hji21] at H ⊢; exact H)
       have hji21w : (IntKind.i64.wrap (x4_1 - 1)) = ji21 := (i64_w _).trans hji21
       by_cases c22 : 0 ≤ (ji21)
       rotate_left
       ·rw [if_neg c22] at H; exact absurd H (by simp)
       rw [if_pos c22] at H
       have c22b0 : decide (0 ≤ (ji21)) = true := decide_eq_true c22
       clear c22
       by_cases c23 : (ji21) < (l0_1.length : Int)
       rotate_left
       ·rw [if_neg c23] at H; exact absurd H (by simp)
       rw [if_pos c23] at H
       have c23b0 : decide ((ji21) < (l0_1.length : Int)) = true := decide_eq_true c23
       clear c23
       replace H := bnd H
       obtain ⟨t318, A240, H⟩ := H
       have A24 := zMk A240
       clear A240
       have H' := zMk H
       clear H
       try go_wp2
       replace BK310 := zMk (zKd BK310.out)
       replace HB := zMk (zBd HB.out)
       have p316 : 0 ≤ ((ji21) : Int) := of_decide_eq_true (by assumption)
       have q316 : (ji21) < (l0_1.length : Int) := of_decide_eq_true (by assumption)
       obtain ⟨ad316, e316, hx316_0, hx316_1, hx316_2⟩ := at_T43 HR0_1.out (ji21) p316 q316
       have hw316_2 := hx316_2
       have hw316_1 := hx316_1
       have hw316_0 := hx316_0
       obtain rfl : ad312 = ad316 := (by injection e316)
       replace hx316_0 := pw_cell_below HB.out hx316_0
       replace hx316_1 := pw_cell_below HB.out hx316_1
       replace hx316_2 := pw_cell_below HB.out hx316_2
       replace p316 := eq_true p316
       replace q316 := eq_true q316
       have p317 : 0 ≤ (x4_1 : Int) := of_decide_eq_true (by assumption)
       have q317 : x4_1 < (l0_1.length : Int) := of_decide_eq_true (by assumption)
       obtain ⟨ad317, e317, hx317_0, hx317_1, hx317_2⟩ := at_T43 HR0_1.out x4_1 p317 q317
       have hw317_2 := hx317_2
       have hw317_1 := hx317_1
       have hw317_0 := hx317_0
       obtain rfl : ad312 = ad317 := (by injection e317)
       replace hx317_0 := pw_cell_below HB.out hx317_0
       replace hx317_1 := pw_cell_below HB.out hx317_1
       replace hx317_2 := pw_cell_below HB.out hx317_2
       replace p317 := eq_true p317
       replace q317 := eq_true q317
       refine start_ (n:=17) (S:=fun w' => w'.cell? ⟨gb310, 0, none⟩ = some (.int .i64 a0_0) ∧ w'.cell? ⟨gb310, 1, none⟩ = some (.slice (some ad312) l0_1.length c0_1) ∧ w'.cell? (ad312.add (((ji21)).toNat * 3)) = some (.int .i64 ((rd_T43 l0_1 (ji21)).f0)) ∧ w'.cell? ⟨(ad312.add (((ji21)).toNat * 3)).block, (ad312.add (((ji21)).toNat * 3)).off + 1, none⟩ = some (.int .i64 ((rd_T43 l0_1 (ji21)).f1)) ∧ w'.cell? ⟨(ad312.add (((ji21)).toNat * 3)).block, (ad312.add (((ji21)).toNat * 3)).off + 2, none⟩ = some (.int .i64 ((rd_T43 l0_1 (ji21)).f2)) ∧ w'.cell? (ad312.add ((x4_1).toNat * 3)) = some (.int .i64 ((rd_T43 l0_1 x4_1).f0)) ∧ w'.cell? ⟨(ad312.add ((x4_1).toNat * 3)).block, (ad312.add ((x4_1).toNat * 3)).off + 1, none⟩ = some (.int .i64 ((rd_T43 l0_1 x4_1).f1)) ∧ w'.cell? ⟨(ad312.add ((x4_1).toNat * 3)).block, (ad312.add ((x4_1).toNat * 3)).off + 2, none⟩ = some (.int .i64 ((rd_T43 l0_1 x4_1).f2))) (ds:=[]) #[false,false,false,false,false,false,false,false,false,false,false,false,false,false,false,false,false] (by kernel_rfl) rfl rfl ⟨(zKc BK310.out 0).trans rfl, (zKc BK310.out 1).trans rfl, (pw_cell_below HB.out hw316_0), (pw_cell_below HB.out hw316_1), (pw_cell_below HB.out hw316_2), (pw_cell_below HB.out hw317_0), (pw_cell_below HB.out hw317_1), (pw_cell_below HB.out hw317_2)⟩ (fun hHeld => ?_); refine with_tabW r4_Right.tab12 r4_Right.bits12 (fun HT_ HW_ => ?_)
       generalize w19.drew = w25 at BK310 HB hx316_0 hx316_1 hx316_2 hx317_0 hx317_1 hx317_2 hHeld ⊢
       refine pure_ (i:=0) (N:=some 46) (v:=?_) (a' := ?_) #[true,false,false,false,false,false,false,false,false,false,false,false,false,false,false,false,false] rfl rfl (any_of HT_.out (by kernel_rfl)) (fun _ _ _ h => h) (Or.inl ⟨by rfl, ?_⟩) ?_ ?_
       rotate_left
       ·intro w'
        go_simp
        with_reducible rfl
       rotate_left
       ·simp only [Act.put, zSa, zSb, zSc, i64_w, i32_w]
        rfl
       refine pure_ (i:=1) (N:=some 47) (v:=?_) (a' := ?_) #[true,true,false,false,false,false,false,false,false,false,false,false,false,false,false,false,false] rfl rfl (any_of HT_.out (by kernel_rfl)) (fun _ _ _ h => h) (Or.inl ⟨by rfl, ?_⟩) ?_ ?_
       rotate_left
       ·intro w'
        go_simp
        with_reducible rfl
       rotate_left
       ·simp only [Act.put, zSa, zSb, zSc, i64_w, i32_w]
        rfl
       refine pure_ (i:=2) (N:=some 48) (v:=?_) (a' := ?_) #[true,true,true,false,false,false,false,false,false,false,false,false,false,false,false,false,false] rfl rfl (any_of HT_.out (by kernel_rfl)) (fun _ _ _ h => h) (Or.inl ⟨by rfl, ?_⟩) ?_ ?_
       rotate_left
       ·intro w'
        go_simp
        with_reducible rfl
       rotate_left
       ·simp only [Act.put, zSa, zSb, zSc, i64_w, i32_w]
        rfl
       refine pure_ (i:=3) (N:=some 49) (v:=?_) (a' := ?_) #[true,true,true,true,false,false,false,false,false,false,false,false,false,false,false,false,false] rfl rfl (any_of HT_.out (by kernel_rfl)) (fun _ _ _ h => h) (Or.inl ⟨by rfl, ?_⟩) ?_ ?_
       rotate_left
       ·intro w'
        go_simp
        with_reducible rfl
       rotate_left
       ·simp only [Act.put, zSa, zSb, zSc, i64_w, i32_w]
        rfl
       refine pure_ (i:=5) (N:=some 51) (v:=?_) (a' := ?_) #[true,true,true,true,false,true,false,false,false,false,false,false,false,false,false,false,false] rfl rfl (any_of HT_.out (by kernel_rfl)) (fun _ _ _ h => h) (Or.inl ⟨by rfl, ?_⟩) ?_ ?_
       rotate_left
       ·intro w'
        go_simp
        with_reducible rfl
       rotate_left
       ·simp only [Act.put, zSa, zSb, zSc, i64_w, i32_w]
        rfl
       refine pure_ (i:=6) (N:=some 52) (v:=?_) (a' := ?_) #[true,true,true,true,false,true,true,false,false,false,false,false,false,false,false,false,false] rfl rfl (any_of HT_.out (by kernel_rfl)) (fun _ _ _ h => h) (Or.inl ⟨by rfl, ?_⟩) ?_ ?_
       rotate_left
       ·intro w'
        go_simp
        with_reducible rfl
       rotate_left
       ·simp only [Act.put, zSa, zSb, zSc, i64_w, i32_w]
        rfl
       refine pure_ (i:=9) (N:=some 55) (v:=?_) (a' := ?_) #[true,true,true,true,false,true,true,false,false,true,false,false,false,false,false,false,false] rfl rfl (any_of HT_.out (by kernel_rfl)) (fun _ _ _ h => h) (Or.inl ⟨by rfl, ?_⟩) ?_ ?_
       rotate_left
       ·intro w'
        go_simp
        with_reducible rfl
       rotate_left
       ·simp only [Act.put, zSa, zSb, zSc, i64_w, i32_w]
        rfl
       refine pure_ (i:=11) (N:=some 57) (v:=?_) (a' := ?_) #[true,true,true,true,false,true,true,false,false,true,false,true,false,false,false,false,false] rfl rfl (any_of HT_.out (by kernel_rfl)) (fun _ _ _ h => h) (Or.inl ⟨by rfl, ?_⟩) ?_ ?_
       rotate_left
       ·intro w'
        go_simp
        with_reducible rfl
       rotate_left
       ·simp only [Act.put, zSa, zSb, zSc, i64_w, i32_w]
        rfl
       refine take_ (i:=4) (N:=some 50) (v:=?_) (a' := ?_) #[true,true,true,true,true,true,true,false,false,true,false,true,false,false,false,false,false] rfl rfl (take_ofW HT_.out HW_.out (by kernel_rfl)) (fun _ _ _ h => h) (Or.inl ⟨by rfl, ?_⟩) hHeld ?_ ?_
       rotate_left
       ·rintro w' ⟨s0, s1, s2, s3, s4, s5, s6, s7⟩
        go_simp
        with_reducible rfl
       rotate_left
       ·simp only [Act.put, zSa, zSb, zSc, i64_w, i32_w]
        rfl
       refine pure_ (i:=7) (N:=some 53) (v:=?_) (a' := ?_) #[true,true,true,true,true,true,true,true,false,true,false,true,false,false,false,false,false] rfl rfl (any_of HT_.out (by kernel_rfl)) (fun _ _ _ h => h) (Or.inl ⟨by rfl, ?_⟩) ?_ ?_
       rotate_left
       ·intro w'
        go_simp
        with_reducible rfl
       rotate_left
       ·simp only [Act.put, zSa, zSb, zSc, i64_w, i32_w]
        rfl
       refine take_ (i:=8) (N:=some 54) (v:=?_) (a' := ?_) #[true,true,true,true,true,true,true,true,true,true,false,true,false,false,false,false,false] rfl rfl (take_ofW HT_.out HW_.out (by kernel_rfl)) (fun _ _ _ h => h) (Or.inl ⟨by rfl, ?_⟩) hHeld ?_ ?_
       rotate_left
       ·rintro w' ⟨s0, s1, s2, s3, s4, s5, s6, s7⟩
        go_simp
        with_reducible rfl
       rotate_left
       ·simp only [Act.put, zSa, zSb, zSc, i64_w, i32_w]
        rfl
       refine take_ (i:=10) (N:=some 56) (v:=?_) (a' := ?_) #[true,true,true,true,true,true,true,true,true,true,true,true,false,false,false,false,false] rfl rfl (take_ofW HT_.out HW_.out (by kernel_rfl)) (fun _ _ _ h => h) (Or.inl ⟨by rfl, ?_⟩) hHeld ?_ ?_
       rotate_left
       ·rintro w' ⟨s0, s1, s2, s3, s4, s5, s6, s7⟩
        go_simp
        with_reducible rfl
       rotate_left
       ·simp only [Act.put, zSa, zSb, zSc, i64_w, i32_w]
        rfl
       refine pure_ (i:=12) (N:=some 58) (v:=?_) (a' := ?_) #[true,true,true,true,true,true,true,true,true,true,true,true,true,false,false,false,false] rfl rfl (any_of HT_.out (by kernel_rfl)) (fun _ _ _ h => h) (Or.inl ⟨by rfl, ?_⟩) ?_ ?_
       rotate_left
       ·intro w'
        go_simp
        with_reducible rfl
       rotate_left
       ·simp only [Act.put, zSa, zSb, zSc, i64_w, i32_w]
        rfl
       refine take_ (i:=13) (N:=some 59) (v:=?_) (a' := ?_) #[true,true,true,true,true,true,true,true,true,true,true,true,true,true,false,false,false] rfl rfl (take_ofW HT_.out HW_.out (by kernel_rfl)) (fun _ _ _ h => h) (Or.inl ⟨by rfl, ?_⟩) hHeld ?_ ?_
       rotate_left
       ·rintro w' ⟨s0, s1, s2, s3, s4, s5, s6, s7⟩
        go_simp
        with_reducible rfl
       rotate_left
       ·simp only [Act.put, zSa, zSb, zSc, i64_w, i32_w]
        rfl
       refine one_ (i:=14) (N:=some 60) #[true,true,true,true,true,true,true,true,true,true,true,true,true,true,true,false,false] rfl rfl (one_of HT_.out (by kernel_rfl)) (by decide) (fun K hK => ?_)
       refine goes_ Try.func26 (by kernel_rfl) rfl #[.agg #[.int .i64 ((rd_T43 l0_1 (ji21)).f0), .int .i64 ((rd_T43 l0_1 (ji21)).f1), .int .i64 ((rd_T43 l0_1 (ji21)).f2)], .agg #[.int .i64 ((rd_T43 l0_1 x4_1).f0), .int .i64 ((rd_T43 l0_1 x4_1).f1), .int .i64 ((rd_T43 l0_1 x4_1).f2)]] (by rfl) rfl rfl (by (try simp only [zMa, zMc, zMn]); first | done | (simp only [hji21]; rfl) | rfl | (simp only [zLd, zLt]; rfl)) ?_
       with_reducible refine (r4_below.calls ((rd_T43 l0_1 (ji21)).f0) ((rd_T43 l0_1 (ji21)).f1) ((rd_T43 l0_1 (ji21)).f2) ((rd_T43 l0_1 x4_1).f0) ((rd_T43 l0_1 x4_1).f1) ((rd_T43 l0_1 x4_1).f2) t318 _ A24.out).mono ?_
       rintro e w26 ⟨rfl, hb⟩
       refine ⟨_, rfl, ?_⟩
       replace BK310 := zMk (zKb (g:=gb310) (o:=.cells #[.int .i64 a0_0, .slice (some ad312) l0_1.length c0_1] 24 (0, 0)) (by (with_reducible repeat (first | refine zKn ?_ _ | refine zKd ?_ | refine zKa ?_ _)); exact BK310.out) hb)
       replace HB := zMk (zBt (by exact uT HB.out) hb)
       refine hK.out _ _ ⟨(zKc BK310.out 0).trans rfl, (zKc BK310.out 1).trans rfl, (pw_cell_below HB.out hw316_0), (pw_cell_below HB.out hw316_1), (pw_cell_below HB.out hw316_2), (pw_cell_below HB.out hw317_0), (pw_cell_below HB.out hw317_1), (pw_cell_below HB.out hw317_2)⟩ (fun hHeld => ?_)
       clear hK K
       refine norm_ (a' := ?_) ?_ ?_
       rotate_left
       ·show Act.put _ (some 60) _ = _
        simp only [Act.put, zSa, zSb, zSc, i64_w, i32_w]
        rfl
       refine pure_ (i:=15) (N:=some 61) (v:=?_) (a' := ?_) #[true,true,true,true,true,true,true,true,true,true,true,true,true,true,true,true,false] rfl rfl (any_of HT_.out (by kernel_rfl)) (fun _ _ _ h => h) (Or.inl ⟨by rfl, ?_⟩) ?_ ?_
       rotate_left
       ·intro w'
        go_simp
        with_reducible rfl
       rotate_left
       ·simp only [Act.put, zSa, zSb, zSc, i64_w, i32_w]
        rfl
       refine pure_ (i:=16) (N:=some 62) (v:=?_) (a' := ?_) #[true,true,true,true,true,true,true,true,true,true,true,true,true,true,true,true,true] rfl rfl (any_of HT_.out (by kernel_rfl)) (fun _ _ _ h => h) (Or.inl ⟨by rfl, ?_⟩) ?_ ?_
       rotate_left
       ·intro w'
        go_simp
        with_reducible rfl
       rotate_left
       ·simp only [Act.put, zSa, zSb, zSc, i64_w, i32_w]
        rfl
       refine done_ (done_of HT_.out (by kernel_rfl)) ?_
       try go_wp2
       go_meet
       case rel => exact ⟨_, (!t318), (by first | rfl | (simp; done) | (simp [*]; done)), H', ⟨by have := HK1.out; first | omega | exact Nat.le_refl _⟩, ⟨by (with_reducible repeat (first | refine zKn ?_ _ | refine zKd ?_ | refine zKa ?_ _)); exact BK310.out⟩, ⟨by exact uT HB.out⟩⟩
      ·rw [if_neg c20] at H
       have c20b0 : decide (0 < x4_1) = false := decide_eq_false c20
       clear c20
       (first | rw [c20b0] | (simp only [i64_w, i32_w]; rw [c20b0]) | rw [c20b1] | skip)
       have H' := zMk H
       clear H
       try go_wp2
       replace BK310 := zMk (zKd BK310.out)
       replace HB := zMk (zBd HB.out)
       refine start_ (n:=17) (S:=fun w' => True) (ds:=[]) #[false,false,false,false,false,false,false,false,false,false,false,false,false,false,false,false,false] (by kernel_rfl) rfl rfl trivial (fun hHeld => ?_); refine with_tabW r4_Right.tab12 r4_Right.bits12 (fun HT_ HW_ => ?_)
       generalize w19.drew = w27 at BK310 HB hHeld ⊢
       refine pure_ (i:=0) (N:=some 46) (v:=?_) (a' := ?_) #[true,false,false,false,false,false,false,false,false,false,false,false,false,false,false,false,false] rfl rfl (any_of HT_.out (by kernel_rfl)) (fun _ _ _ h => h) (Or.inl ⟨by rfl, ?_⟩) ?_ ?_
       rotate_left
       ·intro w'
        go_simp
        with_reducible rfl
       rotate_left
       ·simp only [Act.put, zSa, zSb, zSc, i64_w, i32_w]
        rfl
       refine pure_ (i:=1) (N:=some 47) (v:=?_) (a' := ?_) #[true,true,false,false,false,false,false,false,false,false,false,false,false,false,false,false,false] rfl rfl (any_of HT_.out (by kernel_rfl)) (fun _ _ _ h => h) (Or.inl ⟨by rfl, ?_⟩) ?_ ?_
       rotate_left
       ·intro w'
        go_simp
        with_reducible rfl
       rotate_left
       ·simp only [Act.put, zSa, zSb, zSc, i64_w, i32_w]
        rfl
       refine pure_ (i:=2) (N:=some 48) (v:=?_) (a' := ?_) #[true,true,true,false,false,false,false,false,false,false,false,false,false,false,false,false,false] rfl rfl (any_of HT_.out (by kernel_rfl)) (fun _ _ _ h => h) (Or.inl ⟨by rfl, ?_⟩) ?_ ?_
       rotate_left
       ·intro w'
        go_simp
        with_reducible rfl
       rotate_left
       ·simp only [Act.put, zSa, zSb, zSc, i64_w, i32_w]
        rfl
       refine pure_ (i:=3) (N:=some 49) (v:=undef) (a' := ?_) #[true,true,true,true,false,false,false,false,false,false,false,false,false,false,false,false,false] rfl rfl (any_of HT_.out (by kernel_rfl)) (fun _ _ _ h => h) (Or.inr ⟨by rfl, rfl⟩) ?_ ?_
       rotate_left
       ·simp only [Act.put, zSa, zSb, zSc, i64_w, i32_w]
        rfl
       refine pure_ (i:=4) (N:=some 50) (v:=undef) (a' := ?_) #[true,true,true,true,true,false,false,false,false,false,false,false,false,false,false,false,false] rfl rfl (any_of HT_.out (by kernel_rfl)) (fun _ _ _ h => h) (Or.inr ⟨by rfl, rfl⟩) ?_ ?_
       rotate_left
       ·simp only [Act.put, zSa, zSb, zSc, i64_w, i32_w]
        rfl
       refine pure_ (i:=5) (N:=some 51) (v:=undef) (a' := ?_) #[true,true,true,true,true,true,false,false,false,false,false,false,false,false,false,false,false] rfl rfl (any_of HT_.out (by kernel_rfl)) (fun _ _ _ h => h) (Or.inr ⟨by rfl, rfl⟩) ?_ ?_
       rotate_left
       ·simp only [Act.put, zSa, zSb, zSc, i64_w, i32_w]
        rfl
       refine pure_ (i:=6) (N:=some 52) (v:=undef) (a' := ?_) #[true,true,true,true,true,true,true,false,false,false,false,false,false,false,false,false,false] rfl rfl (any_of HT_.out (by kernel_rfl)) (fun _ _ _ h => h) (Or.inr ⟨by rfl, rfl⟩) ?_ ?_
       rotate_left
       ·simp only [Act.put, zSa, zSb, zSc, i64_w, i32_w]
        rfl
       refine pure_ (i:=7) (N:=some 53) (v:=undef) (a' := ?_) #[true,true,true,true,true,true,true,true,false,false,false,false,false,false,false,false,false] rfl rfl (any_of HT_.out (by kernel_rfl)) (fun _ _ _ h => h) (Or.inr ⟨by rfl, rfl⟩) ?_ ?_
       rotate_left
       ·simp only [Act.put, zSa, zSb, zSc, i64_w, i32_w]
        rfl
       refine pure_ (i:=8) (N:=some 54) (v:=undef) (a' := ?_) #[true,true,true,true,true,true,true,true,true,false,false,false,false,false,false,false,false] rfl rfl (any_of HT_.out (by kernel_rfl)) (fun _ _ _ h => h) (Or.inr ⟨by rfl, rfl⟩) ?_ ?_
       rotate_left
       ·simp only [Act.put, zSa, zSb, zSc, i64_w, i32_w]
        rfl
       refine pure_ (i:=9) (N:=some 55) (v:=undef) (a' := ?_) #[true,true,true,true,true,true,true,true,true,true,false,false,false,false,false,false,false] rfl rfl (any_of HT_.out (by kernel_rfl)) (fun _ _ _ h => h) (Or.inr ⟨by rfl, rfl⟩) ?_ ?_
       rotate_left
       ·simp only [Act.put, zSa, zSb, zSc, i64_w, i32_w]
        rfl
       refine pure_ (i:=10) (N:=some 56) (v:=undef) (a' := ?_) #[true,true,true,true,true,true,true,true,true,true,true,false,false,false,false,false,false] rfl rfl (any_of HT_.out (by kernel_rfl)) (fun _ _ _ h => h) (Or.inr ⟨by rfl, rfl⟩) ?_ ?_
       rotate_left
       ·simp only [Act.put, zSa, zSb, zSc, i64_w, i32_w]
        rfl
       refine pure_ (i:=11) (N:=some 57) (v:=undef) (a' := ?_) #[true,true,true,true,true,true,true,true,true,true,true,true,false,false,false,false,false] rfl rfl (any_of HT_.out (by kernel_rfl)) (fun _ _ _ h => h) (Or.inr ⟨by rfl, rfl⟩) ?_ ?_
       rotate_left
       ·simp only [Act.put, zSa, zSb, zSc, i64_w, i32_w]
        rfl
       refine pure_ (i:=12) (N:=some 58) (v:=undef) (a' := ?_) #[true,true,true,true,true,true,true,true,true,true,true,true,true,false,false,false,false] rfl rfl (any_of HT_.out (by kernel_rfl)) (fun _ _ _ h => h) (Or.inr ⟨by rfl, rfl⟩) ?_ ?_
       rotate_left
       ·simp only [Act.put, zSa, zSb, zSc, i64_w, i32_w]
        rfl
       refine pure_ (i:=13) (N:=some 59) (v:=undef) (a' := ?_) #[true,true,true,true,true,true,true,true,true,true,true,true,true,true,false,false,false] rfl rfl (any_of HT_.out (by kernel_rfl)) (fun _ _ _ h => h) (Or.inr ⟨by rfl, rfl⟩) ?_ ?_
       rotate_left
       ·simp only [Act.put, zSa, zSb, zSc, i64_w, i32_w]
        rfl
       refine pure_ (i:=14) (N:=some 60) (v:=undef) (a' := ?_) #[true,true,true,true,true,true,true,true,true,true,true,true,true,true,true,false,false] rfl rfl (any_of HT_.out (by kernel_rfl)) (fun _ _ _ h => h) (Or.inr ⟨by rfl, rfl⟩) ?_ ?_
       rotate_left
       ·simp only [Act.put, zSa, zSb, zSc, i64_w, i32_w]
        rfl
       refine pure_ (i:=15) (N:=some 61) (v:=undef) (a' := ?_) #[true,true,true,true,true,true,true,true,true,true,true,true,true,true,true,true,false] rfl rfl (any_of HT_.out (by kernel_rfl)) (fun _ _ _ h => h) (Or.inr ⟨by rfl, rfl⟩) ?_ ?_
       rotate_left
       ·simp only [Act.put, zSa, zSb, zSc, i64_w, i32_w]
        rfl
       refine pure_ (i:=16) (N:=some 62) (v:=?_) (a' := ?_) #[true,true,true,true,true,true,true,true,true,true,true,true,true,true,true,true,true] rfl rfl (any_of HT_.out (by kernel_rfl)) (fun _ _ _ h => h) (Or.inl ⟨by rfl, ?_⟩) ?_ ?_
       rotate_left
       ·intro w'
        go_simp
        with_reducible rfl
       rotate_left
       ·simp only [Act.put, zSa, zSb, zSc, i64_w, i32_w]
        rfl
       refine done_ (done_of HT_.out (by kernel_rfl)) ?_
       try go_wp2
       go_meet
       case rel => exact ⟨_, (false), (by first | rfl | (simp; done) | (simp [*]; done)), H', ⟨by have := HK1.out; first | omega | exact Nat.le_refl _⟩, ⟨by (with_reducible repeat (first | refine zKn ?_ _ | refine zKd ?_ | refine zKa ?_ _)); exact BK310.out⟩, ⟨by exact uT HB.out⟩⟩
     case rest =>
      clear HC15
      obtain ⟨kq, x62_14, rfl, HA, HJ14, BK310, HB⟩ := hcut
      rcases kq with _ | kj14
      ·exact absurd HA.out (by simp [r4_Right.j1])
      have H := HA.out
      clear HA
      simp only [r4_Right.j1] at H
      by_cases c28 : x62_14 = true
      ·subst c28
       replace H : (if 0 ≤ x4_1 then (if x4_1 < (l0_1.length : Int) then (if 0 ≤ (wrap64 (x4_1 - 1)) then (if (wrap64 (x4_1 - 1)) < (l0_1.length : Int) then ((r4_below.f ((rd_T43 l0_1 x4_1).f0) ((rd_T43 l0_1 x4_1).f1) ((rd_T43 l0_1 x4_1).f2) ((rd_T43 l0_1 (wrap64 (x4_1 - 1))).f0) ((rd_T43 l0_1 (wrap64 (x4_1 - 1))).f1) ((rd_T43 l0_1 (wrap64 (x4_1 - 1))).f2)).bind fun t321 => (if t321 = true then (some 1) else (some 7))) else (none)) else (none)) else (none)) else (none)) = some r := by rw [if_pos rfl] at H; exact H
       by_cases c29 : 0 ≤ x4_1
       rotate_left
       ·rw [if_neg c29] at H; exact absurd H (by simp)
       rw [if_pos c29] at H
       have c29b0 : decide (0 ≤ x4_1) = true := decide_eq_true c29
       clear c29
       by_cases c30 : x4_1 < (l0_1.length : Int)
       rotate_left
       ·rw [if_neg c30] at H; exact absurd H (by simp)
       rw [if_pos c30] at H
       have c30b0 : decide (x4_1 < (l0_1.length : Int)) = true := decide_eq_true c30
       clear c30
       obtain ⟨ji31, hji31⟩ : ∃ j_ : Int, (wrap64 (x4_1 - 1)) = j_ := ⟨_, rfl⟩
       replace H : (if 0 ≤ (ji31) then (if (ji31) < (l0_1.length : Int) then ((r4_below.f ((rd_T43 l0_1 x4_1).f0) ((rd_T43 l0_1 x4_1).f1) ((rd_T43 l0_1 x4_1).f2) ((rd_T43 l0_1 (ji31)).f0) ((rd_T43 l0_1 (ji31)).f1) ((rd_T43 l0_1 (ji31)).f2)).bind fun t321 => (if t321 = true then (some 1) else (some 7))) else (none)) else (none)) = some r := by first | (rw [hji31] at H; exact H) | (simp only [hji31] at H ⊢; exact H)
       have hji31w : (IntKind.i64.wrap (x4_1 - 1)) = ji31 := (i64_w _).trans hji31
       by_cases c32 : 0 ≤ (ji31)
       rotate_left
       ·rw [if_neg c32] at H; exact absurd H (by simp)
       rw [if_pos c32] at H
       have c32b0 : decide (0 ≤ (ji31)) = true := decide_eq_true c32
       clear c32
       by_cases c33 : (ji31) < (l0_1.length : Int)
       rotate_left
       ·rw [if_neg c33] at H; exact absurd H (by simp)
       rw [if_pos c33] at H
       have c33b0 : decide ((ji31) < (l0_1.length : Int)) = true := decide_eq_true c33
       clear c33
       replace H := bnd H
       obtain ⟨t321, A340, H⟩ := H
       have A34 := zMk A340
       clear A340
       by_cases c35 : t321 = true
       ·subst c35
        replace H : (some 1) = some r := by rw [if_pos rfl] at H; exact H
        obtain rfl := zOi H
        try go_wp2
        replace BK310 := zMk (zKd BK310.out)
        replace HB := zMk (zBd HB.out)
        have p319 : 0 ≤ (x4_1 : Int) := of_decide_eq_true (by assumption)
        have q319 : x4_1 < (l0_1.length : Int) := of_decide_eq_true (by assumption)
        obtain ⟨ad319, e319, hx319_0, hx319_1, hx319_2⟩ := at_T43 HR0_1.out x4_1 p319 q319
        have hw319_2 := hx319_2
        have hw319_1 := hx319_1
        have hw319_0 := hx319_0
        obtain rfl : ad312 = ad319 := (by injection e319)
        replace hx319_0 := pw_cell_below HB.out hx319_0
        replace hx319_1 := pw_cell_below HB.out hx319_1
        replace hx319_2 := pw_cell_below HB.out hx319_2
        replace p319 := eq_true p319
        replace q319 := eq_true q319
        have p320 : 0 ≤ ((ji31) : Int) := of_decide_eq_true (by assumption)
        have q320 : (ji31) < (l0_1.length : Int) := of_decide_eq_true (by assumption)
        obtain ⟨ad320, e320, hx320_0, hx320_1, hx320_2⟩ := at_T43 HR0_1.out (ji31) p320 q320
        have hw320_2 := hx320_2
        have hw320_1 := hx320_1
        have hw320_0 := hx320_0
        obtain rfl : ad312 = ad320 := (by injection e320)
        replace hx320_0 := pw_cell_below HB.out hx320_0
        replace hx320_1 := pw_cell_below HB.out hx320_1
        replace hx320_2 := pw_cell_below HB.out hx320_2
        replace p320 := eq_true p320
        replace q320 := eq_true q320
        refine start_ (n:=12) (S:=fun w' => w'.cell? ⟨gb310, 0, none⟩ = some (.int .i64 a0_0) ∧ w'.cell? ⟨gb310, 1, none⟩ = some (.slice (some ad312) l0_1.length c0_1) ∧ w'.cell? (ad312.add ((x4_1).toNat * 3)) = some (.int .i64 ((rd_T43 l0_1 x4_1).f0)) ∧ w'.cell? ⟨(ad312.add ((x4_1).toNat * 3)).block, (ad312.add ((x4_1).toNat * 3)).off + 1, none⟩ = some (.int .i64 ((rd_T43 l0_1 x4_1).f1)) ∧ w'.cell? ⟨(ad312.add ((x4_1).toNat * 3)).block, (ad312.add ((x4_1).toNat * 3)).off + 2, none⟩ = some (.int .i64 ((rd_T43 l0_1 x4_1).f2)) ∧ w'.cell? (ad312.add (((ji31)).toNat * 3)) = some (.int .i64 ((rd_T43 l0_1 (ji31)).f0)) ∧ w'.cell? ⟨(ad312.add (((ji31)).toNat * 3)).block, (ad312.add (((ji31)).toNat * 3)).off + 1, none⟩ = some (.int .i64 ((rd_T43 l0_1 (ji31)).f1)) ∧ w'.cell? ⟨(ad312.add (((ji31)).toNat * 3)).block, (ad312.add (((ji31)).toNat * 3)).off + 2, none⟩ = some (.int .i64 ((rd_T43 l0_1 (ji31)).f2))) (ds:=[]) #[false,false,false,false,false,false,false,false,false,false,false,false] (by kernel_rfl) rfl rfl ⟨(zKc BK310.out 0).trans rfl, (zKc BK310.out 1).trans rfl, (pw_cell_below HB.out hw319_0), (pw_cell_below HB.out hw319_1), (pw_cell_below HB.out hw319_2), (pw_cell_below HB.out hw320_0), (pw_cell_below HB.out hw320_1), (pw_cell_below HB.out hw320_2)⟩ (fun hHeld => ?_); refine with_tabW r4_Right.tab13 r4_Right.bits13 (fun HT_ HW_ => ?_)
        generalize wc.drew = w36 at BK310 HB hx319_0 hx319_1 hx319_2 hx320_0 hx320_1 hx320_2 hHeld ⊢
        refine pure_ (i:=0) (N:=some 63) (v:=?_) (a' := ?_) #[true,false,false,false,false,false,false,false,false,false,false,false] rfl rfl (any_of HT_.out (by kernel_rfl)) (fun _ _ _ h => h) (Or.inl ⟨by rfl, ?_⟩) ?_ ?_
        rotate_left
        ·intro w'
         go_simp
         with_reducible rfl
        rotate_left
        ·simp only [Act.put, zSa, zSb, zSc, i64_w, i32_w]
         rfl
        refine pure_ (i:=2) (N:=some 65) (v:=?_) (a' := ?_) #[true,false,true,false,false,false,false,false,false,false,false,false] rfl rfl (any_of HT_.out (by kernel_rfl)) (fun _ _ _ h => h) (Or.inl ⟨by rfl, ?_⟩) ?_ ?_
        rotate_left
        ·intro w'
         go_simp
         with_reducible rfl
        rotate_left
        ·simp only [Act.put, zSa, zSb, zSc, i64_w, i32_w]
         rfl
        refine pure_ (i:=5) (N:=some 68) (v:=?_) (a' := ?_) #[true,false,true,false,false,true,false,false,false,false,false,false] rfl rfl (any_of HT_.out (by kernel_rfl)) (fun _ _ _ h => h) (Or.inl ⟨by rfl, ?_⟩) ?_ ?_
        rotate_left
        ·intro w'
         go_simp
         with_reducible rfl
        rotate_left
        ·simp only [Act.put, zSa, zSb, zSc, i64_w, i32_w]
         rfl
        refine pure_ (i:=7) (N:=some 70) (v:=?_) (a' := ?_) #[true,false,true,false,false,true,false,true,false,false,false,false] rfl rfl (any_of HT_.out (by kernel_rfl)) (fun _ _ _ h => h) (Or.inl ⟨by rfl, ?_⟩) ?_ ?_
        rotate_left
        ·intro w'
         go_simp
         with_reducible rfl
        rotate_left
        ·simp only [Act.put, zSa, zSb, zSc, i64_w, i32_w]
         rfl
        refine pure_ (i:=8) (N:=some 71) (v:=?_) (a' := ?_) #[true,false,true,false,false,true,false,true,true,false,false,false] rfl rfl (any_of HT_.out (by kernel_rfl)) (fun _ _ _ h => h) (Or.inl ⟨by rfl, ?_⟩) ?_ ?_
        rotate_left
        ·intro w'
         go_simp
         with_reducible rfl
        rotate_left
        ·simp only [Act.put, zSa, zSb, zSc, i64_w, i32_w]
         rfl
        refine take_ (i:=1) (N:=some 64) (v:=?_) (a' := ?_) #[true,true,true,false,false,true,false,true,true,false,false,false] rfl rfl (take_ofW HT_.out HW_.out (by kernel_rfl)) (fun _ _ _ h => h) (Or.inl ⟨by rfl, ?_⟩) hHeld ?_ ?_
        rotate_left
        ·rintro w' ⟨s0, s1, s2, s3, s4, s5, s6, s7⟩
         go_simp
         with_reducible rfl
        rotate_left
        ·simp only [Act.put, zSa, zSb, zSc, i64_w, i32_w]
         rfl
        refine pure_ (i:=3) (N:=some 66) (v:=?_) (a' := ?_) #[true,true,true,true,false,true,false,true,true,false,false,false] rfl rfl (any_of HT_.out (by kernel_rfl)) (fun _ _ _ h => h) (Or.inl ⟨by rfl, ?_⟩) ?_ ?_
        rotate_left
        ·intro w'
         go_simp
         with_reducible rfl
        rotate_left
        ·simp only [Act.put, zSa, zSb, zSc, i64_w, i32_w]
         rfl
        refine take_ (i:=4) (N:=some 67) (v:=?_) (a' := ?_) #[true,true,true,true,true,true,false,true,true,false,false,false] rfl rfl (take_ofW HT_.out HW_.out (by kernel_rfl)) (fun _ _ _ h => h) (Or.inl ⟨by rfl, ?_⟩) hHeld ?_ ?_
        rotate_left
        ·rintro w' ⟨s0, s1, s2, s3, s4, s5, s6, s7⟩
         go_simp
         with_reducible rfl
        rotate_left
        ·simp only [Act.put, zSa, zSb, zSc, i64_w, i32_w]
         rfl
        refine take_ (i:=6) (N:=some 69) (v:=?_) (a' := ?_) #[true,true,true,true,true,true,true,true,true,false,false,false] rfl rfl (take_ofW HT_.out HW_.out (by kernel_rfl)) (fun _ _ _ h => h) (Or.inl ⟨by rfl, ?_⟩) hHeld ?_ ?_
        rotate_left
        ·rintro w' ⟨s0, s1, s2, s3, s4, s5, s6, s7⟩
         go_simp
         with_reducible rfl
        rotate_left
        ·simp only [Act.put, zSa, zSb, zSc, i64_w, i32_w]
         rfl
        refine pure_ (i:=9) (N:=some 72) (v:=?_) (a' := ?_) #[true,true,true,true,true,true,true,true,true,true,false,false] rfl rfl (any_of HT_.out (by kernel_rfl)) (fun _ _ _ h => h) (Or.inl ⟨by rfl, ?_⟩) ?_ ?_
        rotate_left
        ·intro w'
         go_simp
         with_reducible rfl
        rotate_left
        ·simp only [Act.put, zSa, zSb, zSc, i64_w, i32_w]
         rfl
        refine take_ (i:=10) (N:=some 73) (v:=?_) (a' := ?_) #[true,true,true,true,true,true,true,true,true,true,true,false] rfl rfl (take_ofW HT_.out HW_.out (by kernel_rfl)) (fun _ _ _ h => h) (Or.inl ⟨by rfl, ?_⟩) hHeld ?_ ?_
        rotate_left
        ·rintro w' ⟨s0, s1, s2, s3, s4, s5, s6, s7⟩
         go_simp
         with_reducible rfl
        rotate_left
        ·simp only [Act.put, zSa, zSb, zSc, i64_w, i32_w]
         rfl
        refine one_ (i:=11) (N:=some 74) #[true,true,true,true,true,true,true,true,true,true,true,true] rfl rfl (one_of HT_.out (by kernel_rfl)) (by decide) (fun K hK => ?_)
        refine goes_ Try.func26 (by kernel_rfl) rfl #[.agg #[.int .i64 ((rd_T43 l0_1 x4_1).f0), .int .i64 ((rd_T43 l0_1 x4_1).f1), .int .i64 ((rd_T43 l0_1 x4_1).f2)], .agg #[.int .i64 ((rd_T43 l0_1 (ji31)).f0), .int .i64 ((rd_T43 l0_1 (ji31)).f1), .int .i64 ((rd_T43 l0_1 (ji31)).f2)]] (by rfl) rfl rfl (by (try simp only [zMa, zMc, zMn]); first | done | (simp only [hji31]; rfl) | rfl | (simp only [zLd, zLt]; rfl)) ?_
        with_reducible refine (r4_below.calls ((rd_T43 l0_1 x4_1).f0) ((rd_T43 l0_1 x4_1).f1) ((rd_T43 l0_1 x4_1).f2) ((rd_T43 l0_1 (ji31)).f0) ((rd_T43 l0_1 (ji31)).f1) ((rd_T43 l0_1 (ji31)).f2) true _ A34.out).mono ?_
        rintro e w37 ⟨rfl, hb⟩
        refine ⟨_, rfl, ?_⟩
        replace BK310 := zMk (zKb (g:=gb310) (o:=.cells #[.int .i64 a0_0, .slice (some ad312) l0_1.length c0_1] 24 (0, 0)) (by (with_reducible repeat (first | refine zKn ?_ _ | refine zKd ?_ | refine zKa ?_ _)); exact BK310.out) hb)
        replace HB := zMk (zBt (by exact uT HB.out) hb)
        refine hK.out _ _ ⟨(zKc BK310.out 0).trans rfl, (zKc BK310.out 1).trans rfl, (pw_cell_below HB.out hw319_0), (pw_cell_below HB.out hw319_1), (pw_cell_below HB.out hw319_2), (pw_cell_below HB.out hw320_0), (pw_cell_below HB.out hw320_1), (pw_cell_below HB.out hw320_2)⟩ (fun hHeld => ?_)
        clear hK K
        refine norm_ (a' := ?_) ?_ ?_
        rotate_left
        ·show Act.put _ (some 74) _ = _
         simp only [Act.put, zSa, zSb, zSc, i64_w, i32_w]
         rfl
        refine done_ (done_of HT_.out (by kernel_rfl)) ?_
        try go_wp2
        go_ret
        exact ⟨by first | rfl | (simp [errW_none, errW_some] <;> rfl) | (simp only [← hji31]; first | rfl | (simp [errW_none, errW_some] <;> rfl)) | (simp [*, errW_none, errW_some] <;> rfl), by exact uT HB.out⟩
       ·replace c35 := Bool.eq_false_iff.mpr c35
        subst c35
        replace H : (some 7) = some r := by rw [if_neg (show ¬ (false = true) by decide)] at H; exact H
        obtain rfl := zOi H
        try go_wp2
        replace BK310 := zMk (zKd BK310.out)
        replace HB := zMk (zBd HB.out)
        have p319 : 0 ≤ (x4_1 : Int) := of_decide_eq_true (by assumption)
        have q319 : x4_1 < (l0_1.length : Int) := of_decide_eq_true (by assumption)
        obtain ⟨ad319, e319, hx319_0, hx319_1, hx319_2⟩ := at_T43 HR0_1.out x4_1 p319 q319
        have hw319_2 := hx319_2
        have hw319_1 := hx319_1
        have hw319_0 := hx319_0
        obtain rfl : ad312 = ad319 := (by injection e319)
        replace hx319_0 := pw_cell_below HB.out hx319_0
        replace hx319_1 := pw_cell_below HB.out hx319_1
        replace hx319_2 := pw_cell_below HB.out hx319_2
        replace p319 := eq_true p319
        replace q319 := eq_true q319
        have p320 : 0 ≤ ((ji31) : Int) := of_decide_eq_true (by assumption)
        have q320 : (ji31) < (l0_1.length : Int) := of_decide_eq_true (by assumption)
        obtain ⟨ad320, e320, hx320_0, hx320_1, hx320_2⟩ := at_T43 HR0_1.out (ji31) p320 q320
        have hw320_2 := hx320_2
        have hw320_1 := hx320_1
        have hw320_0 := hx320_0
        obtain rfl : ad312 = ad320 := (by injection e320)
        replace hx320_0 := pw_cell_below HB.out hx320_0
        replace hx320_1 := pw_cell_below HB.out hx320_1
        replace hx320_2 := pw_cell_below HB.out hx320_2
        replace p320 := eq_true p320
        replace q320 := eq_true q320
        refine start_ (n:=12) (S:=fun w' => w'.cell? ⟨gb310, 0, none⟩ = some (.int .i64 a0_0) ∧ w'.cell? ⟨gb310, 1, none⟩ = some (.slice (some ad312) l0_1.length c0_1) ∧ w'.cell? (ad312.add ((x4_1).toNat * 3)) = some (.int .i64 ((rd_T43 l0_1 x4_1).f0)) ∧ w'.cell? ⟨(ad312.add ((x4_1).toNat * 3)).block, (ad312.add ((x4_1).toNat * 3)).off + 1, none⟩ = some (.int .i64 ((rd_T43 l0_1 x4_1).f1)) ∧ w'.cell? ⟨(ad312.add ((x4_1).toNat * 3)).block, (ad312.add ((x4_1).toNat * 3)).off + 2, none⟩ = some (.int .i64 ((rd_T43 l0_1 x4_1).f2)) ∧ w'.cell? (ad312.add (((ji31)).toNat * 3)) = some (.int .i64 ((rd_T43 l0_1 (ji31)).f0)) ∧ w'.cell? ⟨(ad312.add (((ji31)).toNat * 3)).block, (ad312.add (((ji31)).toNat * 3)).off + 1, none⟩ = some (.int .i64 ((rd_T43 l0_1 (ji31)).f1)) ∧ w'.cell? ⟨(ad312.add (((ji31)).toNat * 3)).block, (ad312.add (((ji31)).toNat * 3)).off + 2, none⟩ = some (.int .i64 ((rd_T43 l0_1 (ji31)).f2))) (ds:=[]) #[false,false,false,false,false,false,false,false,false,false,false,false] (by kernel_rfl) rfl rfl ⟨(zKc BK310.out 0).trans rfl, (zKc BK310.out 1).trans rfl, (pw_cell_below HB.out hw319_0), (pw_cell_below HB.out hw319_1), (pw_cell_below HB.out hw319_2), (pw_cell_below HB.out hw320_0), (pw_cell_below HB.out hw320_1), (pw_cell_below HB.out hw320_2)⟩ (fun hHeld => ?_); refine with_tabW r4_Right.tab13 r4_Right.bits13 (fun HT_ HW_ => ?_)
        generalize wc.drew = w38 at BK310 HB hx319_0 hx319_1 hx319_2 hx320_0 hx320_1 hx320_2 hHeld ⊢
        refine pure_ (i:=0) (N:=some 63) (v:=?_) (a' := ?_) #[true,false,false,false,false,false,false,false,false,false,false,false] rfl rfl (any_of HT_.out (by kernel_rfl)) (fun _ _ _ h => h) (Or.inl ⟨by rfl, ?_⟩) ?_ ?_
        rotate_left
        ·intro w'
         go_simp
         with_reducible rfl
        rotate_left
        ·simp only [Act.put, zSa, zSb, zSc, i64_w, i32_w]
         rfl
        refine pure_ (i:=2) (N:=some 65) (v:=?_) (a' := ?_) #[true,false,true,false,false,false,false,false,false,false,false,false] rfl rfl (any_of HT_.out (by kernel_rfl)) (fun _ _ _ h => h) (Or.inl ⟨by rfl, ?_⟩) ?_ ?_
        rotate_left
        ·intro w'
         go_simp
         with_reducible rfl
        rotate_left
        ·simp only [Act.put, zSa, zSb, zSc, i64_w, i32_w]
         rfl
        refine pure_ (i:=5) (N:=some 68) (v:=?_) (a' := ?_) #[true,false,true,false,false,true,false,false,false,false,false,false] rfl rfl (any_of HT_.out (by kernel_rfl)) (fun _ _ _ h => h) (Or.inl ⟨by rfl, ?_⟩) ?_ ?_
        rotate_left
        ·intro w'
         go_simp
         with_reducible rfl
        rotate_left
        ·simp only [Act.put, zSa, zSb, zSc, i64_w, i32_w]
         rfl
        refine pure_ (i:=7) (N:=some 70) (v:=?_) (a' := ?_) #[true,false,true,false,false,true,false,true,false,false,false,false] rfl rfl (any_of HT_.out (by kernel_rfl)) (fun _ _ _ h => h) (Or.inl ⟨by rfl, ?_⟩) ?_ ?_
        rotate_left
        ·intro w'
         go_simp
         with_reducible rfl
        rotate_left
        ·simp only [Act.put, zSa, zSb, zSc, i64_w, i32_w]
         rfl
        refine pure_ (i:=8) (N:=some 71) (v:=?_) (a' := ?_) #[true,false,true,false,false,true,false,true,true,false,false,false] rfl rfl (any_of HT_.out (by kernel_rfl)) (fun _ _ _ h => h) (Or.inl ⟨by rfl, ?_⟩) ?_ ?_
        rotate_left
        ·intro w'
         go_simp
         with_reducible rfl
        rotate_left
        ·simp only [Act.put, zSa, zSb, zSc, i64_w, i32_w]
         rfl
        refine take_ (i:=1) (N:=some 64) (v:=?_) (a' := ?_) #[true,true,true,false,false,true,false,true,true,false,false,false] rfl rfl (take_ofW HT_.out HW_.out (by kernel_rfl)) (fun _ _ _ h => h) (Or.inl ⟨by rfl, ?_⟩) hHeld ?_ ?_
        rotate_left
        ·rintro w' ⟨s0, s1, s2, s3, s4, s5, s6, s7⟩
         go_simp
         with_reducible rfl
        rotate_left
        ·simp only [Act.put, zSa, zSb, zSc, i64_w, i32_w]
         rfl
        refine pure_ (i:=3) (N:=some 66) (v:=?_) (a' := ?_) #[true,true,true,true,false,true,false,true,true,false,false,false] rfl rfl (any_of HT_.out (by kernel_rfl)) (fun _ _ _ h => h) (Or.inl ⟨by rfl, ?_⟩) ?_ ?_
        rotate_left
        ·intro w'
         go_simp
         with_reducible rfl
        rotate_left
        ·simp only [Act.put, zSa, zSb, zSc, i64_w, i32_w]
         rfl
        refine take_ (i:=4) (N:=some 67) (v:=?_) (a' := ?_) #[true,true,true,true,true,true,false,true,true,false,false,false] rfl rfl (take_ofW HT_.out HW_.out (by kernel_rfl)) (fun _ _ _ h => h) (Or.inl ⟨by rfl, ?_⟩) hHeld ?_ ?_
        rotate_left
        ·rintro w' ⟨s0, s1, s2, s3, s4, s5, s6, s7⟩
         go_simp
         with_reducible rfl
        rotate_left
        ·simp only [Act.put, zSa, zSb, zSc, i64_w, i32_w]
         rfl
        refine take_ (i:=6) (N:=some 69) (v:=?_) (a' := ?_) #[true,true,true,true,true,true,true,true,true,false,false,false] rfl rfl (take_ofW HT_.out HW_.out (by kernel_rfl)) (fun _ _ _ h => h) (Or.inl ⟨by rfl, ?_⟩) hHeld ?_ ?_
        rotate_left
        ·rintro w' ⟨s0, s1, s2, s3, s4, s5, s6, s7⟩
         go_simp
         with_reducible rfl
        rotate_left
        ·simp only [Act.put, zSa, zSb, zSc, i64_w, i32_w]
         rfl
        refine pure_ (i:=9) (N:=some 72) (v:=?_) (a' := ?_) #[true,true,true,true,true,true,true,true,true,true,false,false] rfl rfl (any_of HT_.out (by kernel_rfl)) (fun _ _ _ h => h) (Or.inl ⟨by rfl, ?_⟩) ?_ ?_
        rotate_left
        ·intro w'
         go_simp
         with_reducible rfl
        rotate_left
        ·simp only [Act.put, zSa, zSb, zSc, i64_w, i32_w]
         rfl
        refine take_ (i:=10) (N:=some 73) (v:=?_) (a' := ?_) #[true,true,true,true,true,true,true,true,true,true,true,false] rfl rfl (take_ofW HT_.out HW_.out (by kernel_rfl)) (fun _ _ _ h => h) (Or.inl ⟨by rfl, ?_⟩) hHeld ?_ ?_
        rotate_left
        ·rintro w' ⟨s0, s1, s2, s3, s4, s5, s6, s7⟩
         go_simp
         with_reducible rfl
        rotate_left
        ·simp only [Act.put, zSa, zSb, zSc, i64_w, i32_w]
         rfl
        refine one_ (i:=11) (N:=some 74) #[true,true,true,true,true,true,true,true,true,true,true,true] rfl rfl (one_of HT_.out (by kernel_rfl)) (by decide) (fun K hK => ?_)
        refine goes_ Try.func26 (by kernel_rfl) rfl #[.agg #[.int .i64 ((rd_T43 l0_1 x4_1).f0), .int .i64 ((rd_T43 l0_1 x4_1).f1), .int .i64 ((rd_T43 l0_1 x4_1).f2)], .agg #[.int .i64 ((rd_T43 l0_1 (ji31)).f0), .int .i64 ((rd_T43 l0_1 (ji31)).f1), .int .i64 ((rd_T43 l0_1 (ji31)).f2)]] (by rfl) rfl rfl (by (try simp only [zMa, zMc, zMn]); first | done | (simp only [hji31]; rfl) | rfl | (simp only [zLd, zLt]; rfl)) ?_
        with_reducible refine (r4_below.calls ((rd_T43 l0_1 x4_1).f0) ((rd_T43 l0_1 x4_1).f1) ((rd_T43 l0_1 x4_1).f2) ((rd_T43 l0_1 (ji31)).f0) ((rd_T43 l0_1 (ji31)).f1) ((rd_T43 l0_1 (ji31)).f2) false _ A34.out).mono ?_
        rintro e w39 ⟨rfl, hb⟩
        refine ⟨_, rfl, ?_⟩
        replace BK310 := zMk (zKb (g:=gb310) (o:=.cells #[.int .i64 a0_0, .slice (some ad312) l0_1.length c0_1] 24 (0, 0)) (by (with_reducible repeat (first | refine zKn ?_ _ | refine zKd ?_ | refine zKa ?_ _)); exact BK310.out) hb)
        replace HB := zMk (zBt (by exact uT HB.out) hb)
        refine hK.out _ _ ⟨(zKc BK310.out 0).trans rfl, (zKc BK310.out 1).trans rfl, (pw_cell_below HB.out hw319_0), (pw_cell_below HB.out hw319_1), (pw_cell_below HB.out hw319_2), (pw_cell_below HB.out hw320_0), (pw_cell_below HB.out hw320_1), (pw_cell_below HB.out hw320_2)⟩ (fun hHeld => ?_)
        clear hK K
        refine norm_ (a' := ?_) ?_ ?_
        rotate_left
        ·show Act.put _ (some 74) _ = _
         simp only [Act.put, zSa, zSb, zSc, i64_w, i32_w]
         rfl
        refine done_ (done_of HT_.out (by kernel_rfl)) ?_
        try go_wp2
        go_ret
        exact ⟨by first | rfl | (simp [errW_none, errW_some] <;> rfl) | (simp only [← hji31]; first | rfl | (simp [errW_none, errW_some] <;> rfl)) | (simp [*, errW_none, errW_some] <;> rfl), by exact uT HB.out⟩
      ·replace c28 := Bool.eq_false_iff.mpr c28
       subst c28
       replace H : (r4_Right.l0 kj14 (wrap64 (x4_1 + 1)) a0_0 l0_1) = some r := by rw [if_neg (show ¬ (false = true) by decide)] at H; exact H
       have H' := zMk H
       clear H
       go_wp2
       go_roundg kj14
       case measure => have := HK1.out; have := HJ14.out; omega
       case rel => exact ⟨(wrap64 (x4_1 + 1)), (by first | rfl | (simp; done) | (simp [*]; done)), H', ⟨by have := HK1.out; have := HJ14.out; omega⟩, ⟨by (with_reducible repeat (first | refine zKn ?_ _ | refine zKd ?_ | refine zKa ?_ _)); exact BK310.out⟩, ⟨by exact uT HB.out⟩⟩
   ·rw [if_neg c9] at H
    have c9b0 : (t313 == 0) = false := beq_eq_false_iff_ne.mpr c9
    have c9b1 : (t313 != 0) = true := bne_iff_ne.mpr c9
    obtain rfl := zOi H
    have hcz40_0 : wr.cell? ⟨gb310, 0, none⟩ = some (.int .i64 a0_0) := (zKc BK310.out 0).trans rfl
    have hcz40_1 : wr.cell? ⟨gb310, 1, none⟩ = some (.slice A0_1 l0_1.length c0_1) := (zKc BK310.out 1).trans rfl
    have hfz40_0 := zKf BK310.out 0
    have hfz40_1 := zKf BK310.out 1
    try go_wp2
    replace BK310 := zMk (zKd BK310.out)
    replace HB := zMk (zBd HB.out)
    have p312 : 0 ≤ (x4_1 : Int) := of_decide_eq_true (by assumption)
    have q312 : x4_1 < (l0_1.length : Int) := of_decide_eq_true (by assumption)
    obtain ⟨ad312, e312, hx312_0, hx312_1, hx312_2⟩ := at_T43 HR0_1.out x4_1 p312 q312
    have hw312_2 := hx312_2
    have hw312_1 := hx312_1
    have hw312_0 := hx312_0
    cases e312
    replace hx312_0 := pw_cell_below HB.out hx312_0
    replace hx312_1 := pw_cell_below HB.out hx312_1
    replace hx312_2 := pw_cell_below HB.out hx312_2
    replace p312 := eq_true p312
    replace q312 := eq_true q312
    refine start_ (n:=9) (S:=fun w' => w'.cell? ⟨gb310, 0, none⟩ = some (.int .i64 a0_0) ∧ w'.cell? ⟨gb310, 1, none⟩ = some (.slice (some ad312) l0_1.length c0_1) ∧ w'.cell? (ad312.add ((x4_1).toNat * 3)) = some (.int .i64 ((rd_T43 l0_1 x4_1).f0)) ∧ w'.cell? ⟨(ad312.add ((x4_1).toNat * 3)).block, (ad312.add ((x4_1).toNat * 3)).off + 1, none⟩ = some (.int .i64 ((rd_T43 l0_1 x4_1).f1)) ∧ w'.cell? ⟨(ad312.add ((x4_1).toNat * 3)).block, (ad312.add ((x4_1).toNat * 3)).off + 2, none⟩ = some (.int .i64 ((rd_T43 l0_1 x4_1).f2))) (ds:=[]) #[false,false,false,false,false,false,false,false,false] (by kernel_rfl) rfl rfl ⟨(zKc BK310.out 0).trans rfl, (zKc BK310.out 1).trans rfl, (pw_cell_below HB.out hw312_0), (pw_cell_below HB.out hw312_1), (pw_cell_below HB.out hw312_2)⟩ (fun hHeld => ?_); refine with_tabW r4_Right.tab7 r4_Right.bits7 (fun HT_ HW_ => ?_)
    generalize wr.drew = w41 at BK310 HB hx312_0 hx312_1 hx312_2 hHeld ⊢
    refine pure_ (i:=0) (N:=some 22) (v:=?_) (a' := ?_) #[true,false,false,false,false,false,false,false,false] rfl rfl (any_of HT_.out (by kernel_rfl)) (fun _ _ _ h => h) (Or.inl ⟨by rfl, ?_⟩) ?_ ?_
    rotate_left
    ·intro w'
     go_simp
     with_reducible rfl
    rotate_left
    ·simp only [Act.put, zSa, zSb, zSc, i64_w, i32_w]
     rfl
    refine pure_ (i:=2) (N:=some 24) (v:=?_) (a' := ?_) #[true,false,true,false,false,false,false,false,false] rfl rfl (any_of HT_.out (by kernel_rfl)) (fun _ _ _ h => h) (Or.inl ⟨by rfl, ?_⟩) ?_ ?_
    rotate_left
    ·intro w'
     go_simp
     with_reducible rfl
    rotate_left
    ·simp only [Act.put, zSa, zSb, zSc, i64_w, i32_w]
     rfl
    refine pure_ (i:=4) (N:=some 26) (v:=?_) (a' := ?_) #[true,false,true,false,true,false,false,false,false] rfl rfl (any_of HT_.out (by kernel_rfl)) (fun _ _ _ h => h) (Or.inl ⟨by rfl, ?_⟩) ?_ ?_
    rotate_left
    ·intro w'
     go_simp
     with_reducible rfl
    rotate_left
    ·simp only [Act.put, zSa, zSb, zSc, i64_w, i32_w]
     rfl
    refine take_ (i:=1) (N:=some 23) (v:=?_) (a' := ?_) #[true,true,true,false,true,false,false,false,false] rfl rfl (take_ofW HT_.out HW_.out (by kernel_rfl)) (fun _ _ _ h => h) (Or.inl ⟨by rfl, ?_⟩) hHeld ?_ ?_
    rotate_left
    ·rintro w' ⟨s0, s1, s2, s3, s4⟩
     go_simp
     with_reducible rfl
    rotate_left
    ·simp only [Act.put, zSa, zSb, zSc, i64_w, i32_w]
     rfl
    refine take_ (i:=3) (N:=some 25) (v:=?_) (a' := ?_) #[true,true,true,true,true,false,false,false,false] rfl rfl (take_ofW HT_.out HW_.out (by kernel_rfl)) (fun _ _ _ h => h) (Or.inl ⟨by rfl, ?_⟩) hHeld ?_ ?_
    rotate_left
    ·rintro w' ⟨s0, s1, s2, s3, s4⟩
     go_simp
     with_reducible rfl
    rotate_left
    ·simp only [Act.put, zSa, zSb, zSc, i64_w, i32_w]
     rfl
    refine pure_ (i:=5) (N:=some 27) (v:=?_) (a' := ?_) #[true,true,true,true,true,true,false,false,false] rfl rfl (any_of HT_.out (by kernel_rfl)) (fun _ _ _ h => h) (Or.inl ⟨by rfl, ?_⟩) ?_ ?_
    rotate_left
    ·intro w'
     go_simp
     with_reducible rfl
    rotate_left
    ·simp only [Act.put, zSa, zSb, zSc, i64_w, i32_w]
     rfl
    refine take_ (i:=6) (N:=some 28) (v:=?_) (a' := ?_) #[true,true,true,true,true,true,true,false,false] rfl rfl (take_ofW HT_.out HW_.out (by kernel_rfl)) (fun _ _ _ h => h) (Or.inl ⟨by rfl, ?_⟩) hHeld ?_ ?_
    rotate_left
    ·rintro w' ⟨s0, s1, s2, s3, s4⟩
     go_simp
     with_reducible rfl
    rotate_left
    ·simp only [Act.put, zSa, zSb, zSc, i64_w, i32_w]
     rfl
    refine one_ (i:=7) (N:=some 29) #[true,true,true,true,true,true,true,true,false] rfl rfl (one_of HT_.out (by kernel_rfl)) (by decide) (fun K hK => ?_)
    refine goes_ Try.func25 (by kernel_rfl) rfl #[.int .i64 a0_0, .agg #[.int .i64 ((rd_T43 l0_1 x4_1).f0), .int .i64 ((rd_T43 l0_1 x4_1).f1), .int .i64 ((rd_T43 l0_1 x4_1).f2)]] (by rfl) rfl rfl (by (try simp only [zMa, zMc, zMn]); first | done | rfl | (simp only [zLd, zLt]; rfl)) ?_
    with_reducible refine (r4_edge.calls k1 a0_0 ((rd_T43 l0_1 x4_1).f0) ((rd_T43 l0_1 x4_1).f1) ((rd_T43 l0_1 x4_1).f2) t313 _ A8.out).mono ?_
    rintro e w42 ⟨rfl, hb⟩
    refine ⟨_, rfl, ?_⟩
    replace BK310 := zMk (zKb (g:=gb310) (o:=.cells #[.int .i64 a0_0, .slice (some ad312) l0_1.length c0_1] 24 (0, 0)) (by (with_reducible repeat (first | refine zKn ?_ _ | refine zKd ?_ | refine zKa ?_ _)); exact BK310.out) hb)
    replace HB := zMk (zBt (by exact uT HB.out) hb)
    refine hK.out _ _ ⟨(zKc BK310.out 0).trans rfl, (zKc BK310.out 1).trans rfl, (pw_cell_below HB.out hw312_0), (pw_cell_below HB.out hw312_1), (pw_cell_below HB.out hw312_2)⟩ (fun hHeld => ?_)
    clear hK K
    refine norm_ (a' := ?_) ?_ ?_
    rotate_left
    ·show Act.put _ (some 29) _ = _
     simp only [Act.put, zSa, zSb, zSc, i64_w, i32_w]
     rfl
    refine pure_ (i:=8) (N:=some 5) (v:=?_) (a' := ?_) #[true,true,true,true,true,true,true,true,true] rfl rfl (any_of HT_.out (by kernel_rfl)) (fun _ _ _ h => h) (Or.inl ⟨by rfl, ?_⟩) ?_ ?_
    rotate_left
    ·intro w'
     go_simp
     with_reducible rfl
    rotate_left
    ·simp only [Act.put, zSa, zSb, zSc, i64_w, i32_w]
     rfl
    refine done_ (done_of HT_.out (by kernel_rfl)) ?_
    try go_wp2
    go_ret
    exact ⟨by first | rfl | (simp [errW_none, errW_some] <;> rfl) | (simp [*, errW_none, errW_some] <;> rfl), by exact uT HB.out⟩
  ·rw [if_neg c6] at H
   have c6b0 : decide (x4_1 < (l0_1.length : Int)) = false := decide_eq_false c6
   clear c6
   obtain rfl := zOi H
   have hcz43_0 : wr.cell? ⟨gb310, 0, none⟩ = some (.int .i64 a0_0) := (zKc BK310.out 0).trans rfl
   have hcz43_1 : wr.cell? ⟨gb310, 1, none⟩ = some (.slice A0_1 l0_1.length c0_1) := (zKc BK310.out 1).trans rfl
   have hfz43_0 := zKf BK310.out 0
   have hfz43_1 := zKf BK310.out 1
   go_wp2
   go_ret
   exact ⟨by first | rfl | (simp [errW_none, errW_some] <;> rfl) | (simp [*, errW_none, errW_some] <;> rfl), by exact uT HB.out⟩
 ·rw [if_neg c3] at H
  have c3b0 : (t311 == 0) = false := beq_eq_false_iff_ne.mpr c3
  have c3b1 : (t311 != 0) = true := bne_iff_ne.mpr c3
  obtain rfl := zOi H
  go_enter Try.func10, Try.ntmps10
  go_wp2_with (first | ((with_reducible refine gate_dst (N:=1) rfl ?_); refine box_event ?hg (N:=1) ?hd (cs:=#[.int .i64 a0_0, .slice A0_1 l0_1.length c0_1]) (t:=24) ?hr ?_; (case hd => rfl); (case hg => rfl); (case hr => first | (go_simp; done)|(go_simp; rfl)|(go_simp; rw [show ∀ x : Int, IntKind.u32.wrap (IntKind.u8.wrap x) = x % 256 from fun x => (by show (x % 256) % 4294967296 = x % 256; omega)])); intro gb310 hg w44 hbox hb; have BK310 := zMk (hbox); have GW310 := zMk ((by rw [hg]; exact (zBs (by exact uT HB.out)) : w.heap.size ≤ gb310)); have GE310 := zMk ((by rw [hg]; exact (zBs (by exact uT HB.out)) : w.heap.size ≤ gb310)); have IGE310 := ownGe GE310.out; replace HB := zMk (zBt (by exact uT HB.out) hb); clear hb hbox hg; have hcz45_0 : w44.cell? ⟨gb310, 0, none⟩ = some (.int .i64 a0_0) := (zKc BK310.out 0).trans rfl; have hcz45_1 : w44.cell? ⟨gb310, 1, none⟩ = some (.slice A0_1 l0_1.length c0_1) := (zKc BK310.out 1).trans rfl; have hfz45_0 := zKf BK310.out 0; have hfz45_1 := zKf BK310.out 1)|((with_reducible refine gate_callee (f:=24) rfl ?_); refine goesL_ (some 11) rfl rfl Try.func24 (by kernel_rfl) rfl #[.int .i64 a0_0, .int .i64 (l0_1.length : Int)] rfl (by (try simp only [zMa, zMc, zMn]); first |  done|  rfl|  (simp only [zLd, zLt]; rfl)) ?_; (with_reducible refine (r4_many.calls a0_0 (l0_1.length : Int) t311 _ A2.out).mono ?_); rintro e w' ⟨rfl, ⟨nd, rfl⟩⟩; refine ⟨_, rfl, ?_⟩))
  go_ret
  exact ⟨by first | rfl | (simp [errW_none, errW_some] <;> rfl) | (simp [*, errW_none, errW_some] <;> rfl), by exact uT HB.out⟩

theorem w64 {x : Int} (h0 : -9223372036854775808 ≤ x) (h1 : x ≤ 9223372036854775807) : wrap64 x = x := by unfold wrap64; omega
def aloneI (n : Int) (e : S43) : Int :=
 if e.f0 < 0 ∨ e.f0 ≥ n ∨ e.f1 < 0 ∨ e.f1 ≥ n then 5 else if e.f0 = e.f1 then 6 else if e.f2 ≤ -2147483648 ∨ e.f2 ≥ 2147483648 then 8 else 0
theorem alone_eq (k : Nat) (n : Int) (e : S43) : graph_alone.f (k + 1) n e.f0 e.f1 e.f2 = some (aloneI n e) := by
 unfold graph_alone.f aloneI
 simp only [graph_alone.j0, mn, mx, if_true]
 by_cases h1 : e.f1 < e.f0 <;> by_cases h2 : e.f0 < e.f1 <;> simp only [h1, h2, if_true, if_false]
 all_goals repeat' split
 all_goals first | rfl | (exfalso; omega) | (exfalso; simp only [decide_eq_true_eq] at *; omega)
theorem edge_eq (k : Nat) (n : Int) (e : S43) : r4_edge.f (k + 1) n e.f0 e.f1 e.f2 = some (aloneI n e) := by
 unfold r4_edge.f aloneI
 simp only [r4_edge.j0, decide_eq_true_eq, if_true]
 repeat' split
 all_goals first | rfl | (exfalso; omega) | (exfalso; simp only [decide_eq_true_eq] at *; omega)
def ordE (a b : S43) : Int := if a.f0 < b.f0 then -1 else if b.f0 < a.f0 then 1 else if a.f1 < b.f1 then -1 else if b.f1 < a.f1 then 1 else 0
theorem compare_eq (a b : Int) : cmp_Compare_int.f a b = some (if a < b then -1 else if b < a then 1 else 0) := by
 simp only [cmp_Compare_int.f, cmp_isNaN_int.f, zOb, bne_self_eq_false, Bool.false_eq_true, if_false]
 repeat' split
 all_goals first | rfl | omega
theorem or_eq (k : Nat) (p q : Int) : cmp_Or_int.f (k + 3) [p, q] = some (if p = 0 then q else p) := by
 unfold cmp_Or_int.f
 simp only [cmp_Or_int.l0, zLc, zLn]
 by_cases hp : p = 0
 ·subst hp
  by_cases hq : q = 0
  ·subst hq; simp [rd, wrap64]
  ·simp [rd, wrap64, hq]
 ·simp [rd, hp]
theorem order_eq (k : Nat) (a b : S43) : graph_order.f (k + 3) a.f0 a.f1 a.f2 b.f0 b.f1 b.f2 = some (ordE a b) := by
 simp only [graph_order.f, compare_eq, zOb, or_eq, ordE]
 congr 1
 repeat' split
 all_goals omega
theorem below_eq (a b : S43) : r4_below.f a.f0 a.f1 a.f2 b.f0 b.f1 b.f2 = some (decide (ordE a b = -1)) := by
 unfold r4_below.f ordE
 by_cases h1 : a.f0 < b.f0
 ·simp [h1]
 ·rw [if_neg h1, if_neg h1]
  by_cases h2 : b.f0 < a.f0
  ·rw [if_neg (by omega), if_pos h2]; simp
  ·rw [if_pos (by omega), if_neg h2]
   by_cases h3 : a.f1 < b.f1
   ·simp [h3]
   ·rw [if_neg h3]
    by_cases h4 : b.f1 < a.f1
    ·rw [if_pos h4]; simp [h3]
    ·rw [if_neg h4]; simp [h3]
theorem ordE_swap (a b : S43) : ordE b a = - ordE a b := by
 unfold ordE
 repeat' split
 all_goals omega
theorem ordE_cases (a b : S43) : ordE a b = -1 ∨ ordE a b = 0 ∨ ordE a b = 1 := by
 unfold ordE
 repeat' split
 all_goals simp
def rgt (n : Int) : Option S43 → List S43 → Int
 | _, [] => 0
 | p, e :: l =>
  if aloneI n e ≠ 0 then aloneI n e
  else if e.f0 > e.f1 then 1
  else match p with
   | none => rgt n (some e) l
   | some p => if ordE p e = 0 then 7 else if ordE p e = 1 then 1 else rgt n (some e) l
def sizesI (n m : Int) : Int := if n < 0 then 1 else if n > 1048576 then 4 else if m > 4194304 then 4 else 0
theorem sizes_eq (n m : Int) : graph_sizes.f n m = some (sizesI n m) := by
 unfold graph_sizes.f sizesI
 repeat' split
 all_goals rfl
theorem many_eq (n m : Int) : r4_many.f n m = some (sizesI n m) := by
 unfold r4_many.f sizesI
 repeat' split
 all_goals rfl
def rightI (n : Int) (l : List S43) : Int := if sizesI n l.length = 0 then rgt n none l else sizesI n l.length
def lastE (l : List S43) (i : Nat) : Option S43 := if i = 0 then none else some (rd_T43 l ((i - 1 : Nat) : Int))
theorem rdE_get (l : List S43) (i : Nat) (h : i < l.length) : rd_T43 l (i : Int) = l[i] := by
 unfold rd_T43
 rw [zTn]
 simp [h]
theorem dropE (l : List S43) (i : Nat) (h : i < l.length) : l.drop i = rd_T43 l (i : Int) :: l.drop (i + 1) := by
 rw [List.drop_eq_getElem_cons h, rdE_get l i h]
theorem Right_l0 (n : Int) (l : List S43) (hm : l.length ≤ 4194304) (d : Nat) : ∀ (k i : Nat), l.length - i = d → i ≤ l.length → d + 4 ≤ k →
  graph_Right.l0 k l (l.length : Int) i n l = some (rgt n (lastE l i) (l.drop i)) := by
 induction d with
 | zero =>
  intro k i hd hi hk
  obtain ⟨k, rfl⟩ : ∃ m, k = m + 1 := ⟨k - 1, by omega⟩
  obtain rfl : i = l.length := by omega
  rw [List.drop_length]
  simp only [graph_Right.l0]
  rw [if_neg (by omega)]
  simp [rgt]
 | succ d ih =>
  intro k i hd hi hk
  obtain ⟨k, rfl⟩ : ∃ m, k = m + 1 := ⟨k - 1, by omega⟩
  obtain ⟨k1, hk1⟩ : ∃ m, k = m + 1 := ⟨k - 1, by omega⟩
  obtain ⟨k3, hk3⟩ : ∃ m, k = m + 3 := ⟨k - 3, by omega⟩
  have hlt : i < l.length := by omega
  rw [dropE l i hlt]
  have hnext := ih k (i + 1) (by omega) (by omega) (by omega)
  have hl1 : lastE l (i + 1) = some (rd_T43 l (i : Int)) := by unfold lastE; rw [if_neg (by omega)]; rfl
  rw [hl1] at hnext
  have hwn : wrap64 ((i : Int) + 1) = ((i + 1 : Nat) : Int) := by rw [w64 (by omega) (by omega)]; omega
  simp only [graph_Right.l0]
  rw [if_pos (by omega), if_pos (by omega), if_pos (by omega)]
  have ha : graph_alone.f k n (rd_T43 l (i : Int)).f0 (rd_T43 l (i : Int)).f1 (rd_T43 l (i : Int)).f2 = some (aloneI n (rd_T43 l (i : Int))) := by rw [hk1]; exact alone_eq _ _ _
  rw [ha, zOb]
  unfold rgt
  by_cases h0 : aloneI n (rd_T43 l (i : Int)) = 0
  ·rw [if_pos h0, if_neg (not_not_intro h0)]
   by_cases hgt : (rd_T43 l (i : Int)).f0 > (rd_T43 l (i : Int)).f1
   ·rw [if_pos hgt, if_pos hgt]
   ·rw [if_neg hgt, if_neg hgt]
    by_cases hi0 : i = 0
    ·rw [if_pos (by omega), hwn, hnext]
     simp [lastE, hi0]
    ·have hwm : wrap64 ((i : Int) - 1) = ((i - 1 : Nat) : Int) := by rw [w64 (by omega) (by omega)]; omega
     have ho : graph_order.f k (rd_T43 l ((i - 1 : Nat) : Int)).f0 (rd_T43 l ((i - 1 : Nat) : Int)).f1 (rd_T43 l ((i - 1 : Nat) : Int)).f2 (rd_T43 l (i : Int)).f0 (rd_T43 l (i : Int)).f1 (rd_T43 l (i : Int)).f2 = some (ordE (rd_T43 l ((i - 1 : Nat) : Int)) (rd_T43 l (i : Int))) := by rw [hk3]; exact order_eq _ _ _
     rw [if_neg (by omega), hwm, if_pos (by omega), if_pos (by omega), ho, zOb, hwn, hnext]
     have hl0 : lastE l i = some (rd_T43 l ((i - 1 : Nat) : Int)) := by unfold lastE; rw [if_neg hi0]
     rw [hl0]
     repeat' split
     all_goals simp_all
  ·rw [if_neg h0, if_pos h0]
theorem Right_eq (k : Nat) (n : Int) (l : List S43) (hk : l.length + 4 ≤ k) : graph_Right.f k n l = some (rightI n l) := by
 unfold graph_Right.f rightI
 rw [sizes_eq, zOb]
 by_cases h : sizesI n l.length = 0
 ·rw [if_pos h, if_pos h]
  have hm : l.length ≤ 4194304 := by
   unfold sizesI at h
   repeat' split at h
   all_goals omega
  have := Right_l0 n l hm l.length k 0 (by omega) (by omega) (by omega)
  simpa [lastE] using this
 ·rw [if_neg h, if_neg h]
theorem refRight_l0 (n : Int) (l : List S43) (hm : l.length ≤ 4194304) (d : Nat) : ∀ (k i : Nat), l.length - i = d → i ≤ l.length → 2 * d + 3 ≤ k →
  r4_Right.l0 k i n l = some (rgt n (lastE l i) (l.drop i)) := by
 induction d with
 | zero =>
  intro k i hd hi hk
  obtain ⟨k, rfl⟩ : ∃ m, k = m + 1 := ⟨k - 1, by omega⟩
  obtain rfl : i = l.length := by omega
  rw [List.drop_length]
  simp only [r4_Right.l0]
  rw [if_neg (by omega)]
  simp [rgt]
 | succ d ih =>
  intro k i hd hi hk
  obtain ⟨k, rfl⟩ : ∃ m, k = m + 2 := ⟨k - 2, by omega⟩
  have hlt : i < l.length := by omega
  rw [dropE l i hlt]
  have hnext := ih k (i + 1) (by omega) (by omega) (by omega)
  have hl1 : lastE l (i + 1) = some (rd_T43 l (i : Int)) := by unfold lastE; rw [if_neg (by omega)]; rfl
  rw [hl1] at hnext
  have hwn : wrap64 ((i : Int) + 1) = ((i + 1 : Nat) : Int) := by rw [w64 (by omega) (by omega)]; omega
  simp only [r4_Right.l0]
  rw [if_pos (by omega), if_pos (by omega), edge_eq, zOb]
  unfold rgt
  by_cases h0 : aloneI n (rd_T43 l (i : Int)) = 0
  ·rw [if_pos h0, if_neg (not_not_intro h0)]
   by_cases hgt : (rd_T43 l (i : Int)).f0 > (rd_T43 l (i : Int)).f1
   ·rw [if_pos hgt, if_pos hgt]
   ·rw [if_neg hgt, if_neg hgt]
    by_cases hi0 : i = 0
    ·rw [if_neg (by omega)]
     simp only [r4_Right.j1]
     rw [if_neg (by simp), hwn, hnext]
     simp [lastE, hi0]
    ·have hwm : wrap64 ((i : Int) - 1) = ((i - 1 : Nat) : Int) := by rw [w64 (by omega) (by omega)]; omega
     have hl0 : lastE l i = some (rd_T43 l ((i - 1 : Nat) : Int)) := by unfold lastE; rw [if_neg hi0]
     rw [if_pos (by omega), hwm, if_pos (by omega), if_pos (by omega), below_eq, zOb, hl0]
     simp only [r4_Right.j1]
     rw [hwm, hwn, hnext]
     have hsw := ordE_swap (rd_T43 l ((i - 1 : Nat) : Int)) (rd_T43 l (i : Int))
     rcases ordE_cases (rd_T43 l ((i - 1 : Nat) : Int)) (rd_T43 l (i : Int)) with h | h | h
     ·rw [if_neg (by simp [h])]
      simp [h]
     ·rw [if_pos (by simp [h]), if_pos (by omega), if_pos (by omega), if_pos (by omega), if_pos (by omega), below_eq, zOb, hsw, h]
      simp
     ·rw [if_pos (by simp [h]), if_pos (by omega), if_pos (by omega), if_pos (by omega), if_pos (by omega), below_eq, zOb, hsw, h]
      simp
  ·rw [if_neg h0, if_pos h0]
theorem refRight_eq (k : Nat) (n : Int) (l : List S43) (hk : 2 * l.length + 3 ≤ k) : r4_Right.f k n l = some (rightI n l) := by
 unfold r4_Right.f rightI
 rw [many_eq, zOb]
 by_cases h : sizesI n l.length = 0
 ·rw [if_pos h, if_pos h]
  have hm : l.length ≤ 4194304 := by
   unfold sizesI at h
   repeat' split at h
   all_goals omega
  have := refRight_l0 n l hm l.length k 0 (by omega) (by omega) (by omega)
  simpa [lastE] using this
 ·rw [if_neg h, if_neg h]
theorem w64n (i : Nat) (h : i ≤ 9000000000000000000) : wrap64 ((i : Int) + 1) = ((i + 1 : Nat) : Int) := by rw [w64 (by omega) (by omega)]; omega
inductive Cn (E : List S43) : Int → Int → Prop
 | refl (u : Int) : Cn E u u
 | fwd {u : Int} (e : S43) : e ∈ E → Cn E u e.f0 → Cn E u e.f1
 | bwd {u : Int} (e : S43) : e ∈ E → Cn E u e.f1 → Cn E u e.f0
theorem Cn.trans {E : List S43} {u v w : Int} (h1 : Cn E u v) (h2 : Cn E v w) : Cn E u w := by
 induction h2 with
 | refl => exact h1
 | fwd e he _ ih => exact .fwd e he ih
 | bwd e he _ ih => exact .bwd e he ih
theorem Cn.symm {E : List S43} {u v : Int} (h : Cn E u v) : Cn E v u := by
 induction h with
 | refl => exact .refl _
 | fwd e he _ ih => exact Cn.trans (.bwd e he (.refl _)) ih
 | bwd e he _ ih => exact Cn.trans (.fwd e he (.refl _)) ih
theorem Cn.mono {E F : List S43} {u v : Int} (hs : ∀ e ∈ E, e ∈ F) (h : Cn E u v) : Cn F u v := by
 induction h with
 | refl => exact .refl _
 | fwd e he _ ih => exact .fwd e (hs e he) ih
 | bwd e he _ ih => exact .bwd e (hs e he) ih
def Ends (N : Nat) (E : List S43) : Prop := ∀ e ∈ E, 0 ≤ e.f0 ∧ e.f0 < (N : Int) ∧ 0 ≤ e.f1 ∧ e.f1 < (N : Int)
theorem Cn.inn {N : Nat} {E : List S43} (hE : Ends N E) {u v : Int} (h : Cn E u v) (hu : 0 ≤ u ∧ u < (N : Int)) : 0 ≤ v ∧ v < (N : Int) := by
 cases h with
 | refl => exact hu
 | fwd e he _ => exact ⟨(hE e he).2.2.1, (hE e he).2.2.2⟩
 | bwd e he _ => exact ⟨(hE e he).1, (hE e he).2.1⟩
def Root (E : List S43) (r : Int) : Prop := ∀ v, 0 ≤ v → Cn E r v → r ≤ v
theorem root_ex (E : List S43) : ∀ (n : Nat) (v : Int), (∃ u : Int, 0 ≤ u ∧ u ≤ n ∧ Cn E v u) → ∃ r, 0 ≤ r ∧ Root E r ∧ Cn E v r
 | 0, v, ⟨u, h0, h1, hc⟩ => ⟨u, h0, fun x hx _ => by omega, hc⟩
 | n + 1, v, ⟨u, h0, h1, hc⟩ => by
  by_cases h : ∃ x : Int, 0 ≤ x ∧ x ≤ n ∧ Cn E v x
  ·exact root_ex E n v h
  ·refine ⟨u, h0, fun x hx hux => ?_, hc⟩
   have h2 : ¬ x ≤ n := fun h3 => h ⟨x, hx, h3, hc.trans hux⟩
   omega
theorem root_of (E : List S43) (v : Int) (hv : 0 ≤ v) : ∃ r, 0 ≤ r ∧ r ≤ v ∧ Root E r ∧ Cn E v r := by
 obtain ⟨r, h0, h1, h2⟩ := root_ex E v.toNat v ⟨v, hv, by omega, .refl _⟩
 exact ⟨r, h0, h1 v hv h2.symm, h1, h2⟩
theorem root_eq {E : List S43} {r s : Int} (hr0 : 0 ≤ r) (hs0 : 0 ≤ s) (hr : Root E r) (hs : Root E s) (h : Cn E r s) : r = s := by
 have h1 := hr s hs0 h
 have h2 := hs r hr0 h.symm
 omega
theorem up_eq {l m : List Int} (hl : l.Pairwise (· < ·)) (hm : m.Pairwise (· < ·)) (h : ∀ x, x ∈ l ↔ x ∈ m) : l = m := by
 refine List.Perm.eq_of_pairwise (le:=fun a b : Int => a < b) (fun a b _ _ h1 h2 => by omega) hl hm ?_
 exact (List.perm_ext_iff_of_nodup (hl.imp (fun h => by omega)) (hm.imp (fun h => by omega))).2 h
def ups (N : Nat) : List Int := (List.range N).map fun i : Nat => (i : Int)
theorem mem_ups {N : Nat} {v : Int} : v ∈ ups N ↔ 0 ≤ v ∧ v < (N : Int) := by
 unfold ups
 rw [List.mem_map]
 constructor
 ·rintro ⟨i, hi, rfl⟩; rw [List.mem_range] at hi; omega
 ·rintro ⟨h0, h1⟩; exact ⟨v.toNat, List.mem_range.2 (by omega), by omega⟩
theorem ups_up (N : Nat) : (ups N).Pairwise (· < ·) := by
 unfold ups
 rw [List.pairwise_map]
 exact (List.pairwise_lt_range (n:=N)).imp (fun h => by omega)
theorem ups_len (N : Nat) : (ups N).length = N := by simp [ups]
theorem rd_nat (l : List Int) (i : Nat) (h : i < l.length) : rd l (i : Int) = l[i] := by unfold rd; rw [zTn]; simp [h]
theorem rd_set (l : List Int) (i v x : Int) (hi : 0 ≤ i) (h : i < (l.length : Int)) (hv : 0 ≤ v) : rd (l.set i.toNat x) v = if v = i then x else rd l v := by
 unfold rd
 rw [List.getD_eq_getElem?_getD, List.getD_eq_getElem?_getD, List.getElem?_set]
 by_cases e : v = i
 ·subst e
  rw [if_pos rfl, if_pos rfl, if_pos (by omega)]; rfl
 ·rw [if_neg (by omega), if_neg e]
theorem rdb_set (l : List Bool) (i v : Int) (x : Bool) (hi : 0 ≤ i) (h : i < (l.length : Int)) (hv : 0 ≤ v) : rdOf false (l.set i.toNat x) v = if v = i then x else rdOf false l v := by
 unfold rdOf
 rw [List.getD_eq_getElem?_getD, List.getD_eq_getElem?_getD, List.getElem?_set]
 by_cases e : v = i
 ·subst e
  rw [if_pos rfl, if_pos rfl, if_pos (by omega)]; rfl
 ·rw [if_neg (by omega), if_neg e]
theorem rd_rep (n : Nat) (x : Int) : rd (List.replicate n 0) x = 0 := by
 unfold rd
 rw [List.getD_eq_getElem?_getD, List.getElem?_replicate]
 split <;> rfl
theorem rdb_rep (n : Nat) (x : Int) : rdOf false (List.replicate n false) x = false := by
 unfold rdOf
 rw [List.getD_eq_getElem?_getD, List.getElem?_replicate]
 split <;> rfl
theorem count_le (r : Int) : ∀ (l m : List Int), l.length = m.length → (∀ i : Nat, i < l.length → rd l i = r → rd m i = r) → l.count r ≤ m.count r
 | [], [], _, _ => Nat.le_refl _
 | [], _ :: _, h, _ => by simp at h
 | _ :: _, [], h, _ => by simp at h
 | a :: l, b :: m, h, hm => by
  have h1 := count_le r l m (by simpa using h) (fun i hi => by
   have := hm (i + 1) (by simpa using hi)
   simpa [rd] using this)
  have h2 : a = r → b = r := by
   have := hm 0 (by simp)
   simpa [rd] using this
  rw [List.count_cons, List.count_cons]
  by_cases e : a = r
  ·rw [if_pos (by simpa using e), if_pos (by simpa using h2 e)]; omega
  ·rw [if_neg (by simpa using e)]; omega
theorem count_lt (r : Int) : ∀ (l m : List Int), l.length = m.length → (∀ i : Nat, i < l.length → rd l i = r → rd m i = r) → (∃ i : Nat, i < l.length ∧ rd l i ≠ r ∧ rd m i = r) → l.count r < m.count r
 | [], _, _, _, ⟨i, hi, _⟩ => by simp at hi
 | _ :: _, [], h, _, _ => by simp at h
 | a :: l, b :: m, h, hm, ⟨i, hi, h3, h4⟩ => by
  have hm' : ∀ i : Nat, i < l.length → rd l i = r → rd m i = r := fun i hi => by
   have := hm (i + 1) (by simpa using hi)
   simpa [rd] using this
  have h2 : a = r → b = r := by
   have := hm 0 (by simp)
   simpa [rd] using this
  rw [List.count_cons, List.count_cons]
  cases i with
  | zero =>
   have e1 : a ≠ r := by simpa [rd] using h3
   have e2 : b = r := by simpa [rd] using h4
   have h1 := count_le r l m (by simpa using h) hm'
   rw [if_neg (by simpa using e1), if_pos (by simpa using e2)]; omega
  | succ i =>
   have h1 := count_lt r l m (by simpa using h) hm' ⟨i, by simpa using hi, by simpa [rd] using h3, by simpa [rd] using h4⟩
   by_cases e : a = r
   ·rw [if_pos (by simpa using e), if_pos (by simpa using h2 e)]; omega
   ·rw [if_neg (by simpa using e)]; omega
end Go.Proofs.Ytkiemlbobcklpaa.A
