/- Lemmas for the statement: the walks of the functions that it reaches, and plain laws. -/
import Derived.Shelf.SlSortCmp.NoneTotal
import Derived.Shelf.Sort.Plain
import Derived.Shelf.Slices.In.SortNone
import Derived.Ground.SlsfProg
import Derived.Ground.NamesProg
import Derived.Test.YteicpdkembmilaaProg
import Derived.Test.YteicpdkembmilaaVMore
import Derived.Test.YteicpdkembmilaaVN
import Derived.Below
import Derived.Deep.Draws
import Derived.Deep.AppendLies
import Derived.Maps.AppendAt
import Derived.OwnWalk
import Derived.Laws.BytesArg
import Derived.Laws.MakeOwn
import Derived.Laws.OwnMore
import Derived.Deep.OwnRows
import Derived.Tactics
import Derived.Lib.ConvBytes
import Derived.Laws.Slices
import Derived.WalkKit
import Derived.KernelRfl
import Derived.RowKit3
import Derived.Deep.LoopGhost
import Derived.Deep.QuietTactic
import Derived.BigQuiet
import Derived.WideLaws
import Derived.Deep.DeepCutAuto
import Derived.Deep.CutBlock
import Derived.Deep.RegionHeld3
import Derived.Laws.Rows
import Derived.Lib.AppendStr
import Derived.ArgAppend
import Derived.Laws.IdiomCopy
import Derived.OrdersHeld
import Derived.Laws.BitsLemmas
import Derived.RowKit
import Derived.WalkSpells
import Derived.RangeFuncNested
import Derived.RangeFuncBound
import Derived.RangeFuncCalls
import Derived.RangeFuncLeaves
import Derived.Shelf.Abstract
import Derived.Shelf.RegionOpen
import Derived.OwnWalkIn
import Derived.TacticsInMore
import Derived.LoopNIn
import Derived.LoopIn
import Derived.StillTailTactics
import Derived.OrdersIn
import Derived.TacticsIn
import Derived.Deep.RegionWith
import Derived.Sort.Grow
import Derived.Shelf.SlSortCmp.InsertionK
import Derived.Laws.ResultCell
import Derived.Laws.EntriesVeiled
import Derived.Test.YteicpdkembmilaaVWords
import Derived.Test.YteicpdkembmilaaVLast
import Derived.Test.YteicpdkembmilaaVTab
import Derived.Test.YteicpdkembmilaaVQPut
import Derived.Test.YteicpdkembmilaaVApart
import Derived.Test.YteicpdkembmilaaVArr
import Derived.Test.YteicpdkembmilaaVZeros
import Derived.Test.YteicpdkembmilaaVFoot
import Derived.Test.YteicpdkembmilaaVKept
import Derived.Test.YteicpdkembmilaaVShare
import Derived.Test.YteicpdkembmilaaVEqStruct
import Derived.Test.YteicpdkembmilaaVRepsOne
import Derived.Test.YteicpdkembmilaaVGuard
import Derived.Test.YteicpdkembmilaaVNEv
set_option linter.unusedVariables false
set_option linter.unusedSimpArgs false
set_option maxHeartbeats 8000000
set_option maxRecDepth 100000
namespace Go.Proofs
open Go.Shelf
def Try.sortE_ren : Go.Shelf.Ren := ⟨fun | 6 => 39 | 15 => 51 | 14 => 50 | 28 => 62 | 29 => 63 | 20 => 54 | 21 => 55 | 22 => 56 | 23 => 57 | 24 => 58 | 25 => 59 | 26 => 60 | 27 => 61 | 46 => 73 | 47 => 74 | 48 => 75 | 49 => 76 | 50 => 77 | 57 => 81 | n => n, fun | 22 => 22 | 24 => 36 | 25 => 55 | 3 => 3 | 39 => 71 | 0 => 0 | 53 => 81 | 55 => 83 | 4 => 4 | 46 => 75 | 45 => 74 | 50 => 63 | 5 => 5 | 9 => 9 | 66 => 90 | 70 => 94 | 76 => 98 | 77 => 99 | n => n, fun | n => n⟩
theorem Try.sortE : Go.Proofs.SlLaysF0.n6 Try.prog Try.sortE_ren := {
  mixed := by kernel_rfl
  f6 := ⟨Try.f39.name, by decide, Try.func39.trans (congrArg some (by kernel_rfl))⟩
  f14 := ⟨Try.f50.name, by decide, Try.func50.trans (congrArg some (by kernel_rfl))⟩
  f15 := Try.func51.trans (congrArg some (by kernel_rfl))
  f20 := ⟨Try.f54.name, by decide, Try.func54.trans (congrArg some (by kernel_rfl))⟩
  f21 := ⟨Try.f55.name, by decide, Try.func55.trans (congrArg some (by kernel_rfl))⟩
  f22 := ⟨Try.f56.name, by decide, Try.func56.trans (congrArg some (by kernel_rfl))⟩
  f23 := ⟨Try.f57.name, by decide, Try.func57.trans (congrArg some (by kernel_rfl))⟩
  f24 := ⟨Try.f58.name, by decide, Try.func58.trans (congrArg some (by kernel_rfl))⟩
  f25 := ⟨Try.f59.name, by decide, Try.func59.trans (congrArg some (by kernel_rfl))⟩
  f26 := ⟨Try.f60.name, by decide, Try.func60.trans (congrArg some (by kernel_rfl))⟩
  f27 := ⟨Try.f61.name, by decide, Try.func61.trans (congrArg some (by kernel_rfl))⟩
  f28 := Try.func62.trans (congrArg some (by kernel_rfl))
  f29 := Try.func63.trans (congrArg some (by kernel_rfl))
  f46 := ⟨Try.f73.name, by decide, Try.func73.trans (congrArg some (by kernel_rfl))⟩
  f47 := Try.func74.trans (congrArg some (by kernel_rfl))
  f48 := Try.func75.trans (congrArg some (by kernel_rfl))
  f49 := ⟨Try.f76.name, by decide, Try.func76.trans (congrArg some (by kernel_rfl))⟩
  f50 := ⟨Try.f77.name, by decide, Try.func77.trans (congrArg some (by kernel_rfl))⟩
  f57 := ⟨Try.f81.name, by decide, Try.func81.trans (congrArg some (by kernel_rfl))⟩
  t0 := Try.underlying0
  a0 := Try.isAgg0
  z0 := Try.sizeOf0
  v0 := Try.zeroValue0
  t3 := Try.underlying3
  a3 := Try.isAgg3
  z3 := Try.sizeOf3
  v3 := Try.zeroValue3
  t4 := Try.underlying4
  a4 := Try.isAgg4
  z4 := Try.sizeOf4
  v4 := Try.zeroValue4
  t5 := Try.underlying5
  a5 := Try.isAgg5
  z5 := Try.sizeOf5
  v5 := Try.zeroValue5
  t9 := Try.underlying9
  a9 := Try.isAgg9
  z9 := Try.sizeOf9
  v9 := Try.zeroValue9
  t22 := Try.underlying22
  a22 := Try.isAgg22
  z22 := Try.sizeOf22
  v22 := Try.zeroValue22
  t25 := Try.underlying55
  a25 := Try.isAgg55
  z25 := Try.sizeOf55
  v25 := Try.zeroValue55
  t39 := Try.underlying71
  a39 := Try.isAgg71
  z39 := Try.sizeOf71
  v39 := Try.zeroValue71
  t45 := Try.underlying74
  a45 := Try.isAgg74
  z45 := Try.sizeOf74
  v45 := Try.zeroValue74
  t46 := Try.underlying75
  a46 := Try.isAgg75
  z46 := Try.sizeOf75
  v46 := Try.zeroValue75
  t50 := Try.underlying63
  a50 := Try.isAgg63
  z50 := Try.sizeOf63
  v50 := Try.zeroValue63
  t53 := Try.underlying81
  a53 := Try.isAgg81
  z53 := Try.sizeOf81
  v53 := Try.zeroValue81
  t55 := Try.underlying83
  a55 := Try.isAgg83
  z55 := Try.sizeOf83
  v55 := Try.zeroValue83
  t66 := Try.underlying90
  a66 := Try.isAgg90
  z66 := Try.sizeOf90
  v66 := Try.zeroValue90
  t70 := Try.underlying94
  a70 := Try.isAgg94
  z70 := Try.sizeOf94
  v70 := Try.zeroValue94
  t76 := Try.underlying98
  a76 := Try.isAgg98
  z76 := Try.sizeOf98
  v76 := Try.zeroValue98
  t77 := Try.underlying99
  a77 := Try.isAgg99
  z77 := Try.sizeOf99
  v77 := Try.zeroValue99 }
def Try.lays189_ren : Go.Shelf.Ren := ⟨fun | 189 => 46 | 125 => 51 | 257 => 52 | 128 => 62 | 129 => 63 | 294 => 64 | 295 => 65 | 296 => 66 | 297 => 67 | 298 => 68 | 299 => 69 | 216 => 70 | 300 => 71 | 301 => 72 | 328 => 78 | 329 => 74 | 330 => 75 | 331 => 79 | 332 => 80 | 215 => 53 | 343 => 82 | n => n, fun | 28 => 33 | 3 => 3 | 46 => 71 | 0 => 0 | 51 => 81 | 53 => 83 | 4 => 4 | 183 => 75 | 182 => 74 | 131 => 63 | 5 => 5 | 9 => 9 | 218 => 90 | 222 => 94 | 228 => 98 | 229 => 99 | n => n, fun | n => n⟩
theorem Try.lays189 : Go.Proofs.Lays.n189 Try.prog Try.lays189_ren := {
  mixed := by kernel_rfl
  f125 := Try.func51.trans (congrArg some (by kernel_rfl))
  f128 := Try.func62.trans (congrArg some (by kernel_rfl))
  f129 := Try.func63.trans (congrArg some (by kernel_rfl))
  f189 := Try.func46.trans (congrArg some (by kernel_rfl))
  f215 := Try.func53.trans (congrArg some (by kernel_rfl))
  f216 := Try.func70.trans (congrArg some (by kernel_rfl))
  f257 := Try.func52.trans (congrArg some (by kernel_rfl))
  f294 := Try.func64.trans (congrArg some (by kernel_rfl))
  f295 := Try.func65.trans (congrArg some (by kernel_rfl))
  f296 := Try.func66.trans (congrArg some (by kernel_rfl))
  f297 := Try.func67.trans (congrArg some (by kernel_rfl))
  f298 := Try.func68.trans (congrArg some (by kernel_rfl))
  f299 := Try.func69.trans (congrArg some (by kernel_rfl))
  f300 := Try.func71.trans (congrArg some (by kernel_rfl))
  f301 := Try.func72.trans (congrArg some (by kernel_rfl))
  f328 := Try.func78.trans (congrArg some (by kernel_rfl))
  f329 := Try.func74.trans (congrArg some (by kernel_rfl))
  f330 := Try.func75.trans (congrArg some (by kernel_rfl))
  f331 := Try.func79.trans (congrArg some (by kernel_rfl))
  f332 := Try.func80.trans (congrArg some (by kernel_rfl))
  f343 := Try.func82.trans (congrArg some (by kernel_rfl))
  t0 := Try.underlying0
  a0 := Try.isAgg0
  z0 := Try.sizeOf0
  v0 := Try.zeroValue0
  t3 := Try.underlying3
  a3 := Try.isAgg3
  z3 := Try.sizeOf3
  v3 := Try.zeroValue3
  t4 := Try.underlying4
  a4 := Try.isAgg4
  z4 := Try.sizeOf4
  v4 := Try.zeroValue4
  t5 := Try.underlying5
  a5 := Try.isAgg5
  z5 := Try.sizeOf5
  v5 := Try.zeroValue5
  t9 := Try.underlying9
  a9 := Try.isAgg9
  z9 := Try.sizeOf9
  v9 := Try.zeroValue9
  t28 := Try.underlying33
  a28 := Try.isAgg33
  z28 := Try.sizeOf33
  v28 := Try.zeroValue33
  t46 := Try.underlying71
  a46 := Try.isAgg71
  z46 := Try.sizeOf71
  v46 := Try.zeroValue71
  t51 := Try.underlying81
  a51 := Try.isAgg81
  z51 := Try.sizeOf81
  v51 := Try.zeroValue81
  t53 := Try.underlying83
  a53 := Try.isAgg83
  z53 := Try.sizeOf83
  v53 := Try.zeroValue83
  t131 := Try.underlying63
  a131 := Try.isAgg63
  z131 := Try.sizeOf63
  v131 := Try.zeroValue63
  t182 := Try.underlying74
  a182 := Try.isAgg74
  z182 := Try.sizeOf74
  v182 := Try.zeroValue74
  t183 := Try.underlying75
  a183 := Try.isAgg75
  z183 := Try.sizeOf75
  v183 := Try.zeroValue75
  t218 := Try.underlying90
  a218 := Try.isAgg90
  z218 := Try.sizeOf90
  v218 := Try.zeroValue90
  t222 := Try.underlying94
  a222 := Try.isAgg94
  z222 := Try.sizeOf94
  v222 := Try.zeroValue94
  t228 := Try.underlying98
  a228 := Try.isAgg98
  z228 := Try.sizeOf98
  v228 := Try.zeroValue98
  t229 := Try.underlying99
  a229 := Try.isAgg99
  z229 := Try.sizeOf99
  v229 := Try.zeroValue99 }
open Go.Sort Go.RowKit in
theorem Try.slices_Sort_int (blk off cap : Nat) (zs : List Int) (w : World) (hH : Holds (Value.int .i64) w blk off zs.toArray) (hblk : blk < w.heap.size) (hsz : zs.length < 4611686018427387904) :
    Calls Try.prog 46 #[.slice (some ⟨blk, off, none⟩) zs.length cap] w fun e w' =>
      e = .returned (.tuple #[]) ∧ ∃ n os, w' = grow (putRow (Value.int .i64) (Sort.ahead w n) blk off (zs.mergeSort fun x y => decide (x ≤ y)).toArray) os := Any.slices_Sort_int Try.lays189 blk off cap zs w hH hblk hsz
open Go.RowKit Go.Sort in
theorem Try.slices_Sort_int_none (p : Option Addr) (cap : Nat) (w : World) :
    Calls Try.prog 46 #[.slice p 0 cap] w fun e w' => e = .returned (.tuple #[]) ∧ w' = w := Any.slices_Sort_int_none Try.lays189 p cap w
open Go.Sort Go.RowKit Go.Lib in
theorem Try.slices_SortFunc_none (p : Option Addr) (cap : Nat) (fv : Value) (w : World) :
    Calls Try.prog 39 #[.slice p 0 cap, fv] w fun e w' => e = .returned (.tuple #[]) ∧ w' = w := AnyF.slices_SortFunc_none Try.sortE p cap fv w
open Go.Sort Go.RowKit Go.Lib in
theorem Try.slices_SortFunc_eq {α : Type} [Inhabited α] (enc : α → List Value) (hk : ∀ x, (enc x).length = 3) (h1 : ∀ x, ∀ v ∈ enc x, v.oneCell' = true) (cf : α → α → Int) (hO : SWO (ltOf cf)) (g : Nat) (cb : Array Value) (blk off cap : Nat) (d : Array α) (w : World)
    (eg : ∀ args w, (callFunc g args).run Try.prog w = .ok (.enter g args) w) (hcmp : CmpLays Try.prog g cb enc 3 cf blk off d.size w) (hH : HoldsK enc 3 w blk off d) (hblk : blk < w.heap.size) (hsz : d.size < 4611686018427387904) :
    Calls Try.prog 39 #[.slice (some ⟨blk, off, none⟩) d.size cap, .func (.func g) #[] cb] w fun e w' =>
      e = .returned (.tuple #[]) ∧ ∃ n os, w' = sortWorldK enc 3 w blk off n (pdq (ltOf cf) d 0 d.size (Lib.bitLen d.size) true true) os := AnyQ.slices_SortFunc_eq Try.sortE 3 Try.isAgg36 Try.sizeOf36 enc hk h1 cf hO g cb blk off cap d w eg hcmp hH hblk hsz
end Go.Proofs
namespace Go.Proofs.YteicpdkembmilaaW.PrintWords
open Go Go.RowKit Go.Proofs.YteicpdkembmilaaW.PrintWords Go.Proofs.YteicpdkembmilaaW.PrintLast Go.Proofs.YteicpdkembmilaaW.PrintMore
attribute [local go_sem] max2_int min2_int max_two min_two max_three min_three max_four min_four
open Go.Proofs.YteicpdkembmilaaW.PrintWords.Kd renaming R_alloc → zRa, R_drewN → zRn, R_drew → zRd, C_alloc → zCa, C_drewN → zCn, C_drew → zCd, R_mono → zRm, at_int → zAi, R_elder' → zRe, R_lower → zRl, R_new' → zRw, R_lt → zRt, R_below → zRb, R_base → zRz, R_reads' → zRr, R_slice → zRs
open Go.Proofs.YteicpdkembmilaaW.PrintWords renaming pw_below_drewN → zBn, below_alloc → zBa, below_drew1 → zBd, below_size → zBs, below_step → zBt, blk_drewN → zKn, blk_drew → zKd, blk_alloc → zKa, blk_below → zKb, blk_cell → zKc, blk_frozen → zKf
open List renaming setIfInBounds_toArray → zSa, set_cons_zero → zSb, set_cons_succ → zSc, length_drop → zLd, length_take → zLt, map_toArray → zMa, map_cons → zMc, map_nil → zMn, length_cons → zLc, length_nil → zLn
open Go.Proofs.YteicpdkembmilaaW.PrintWords.Aside0 renaming mk → zMk
open Option renaming bind_eq_some_iff → zBi, bind_some → zOb
open Option.some renaming inj → zOi
open Int renaming toNat_natCast → zTn
structure Up (W W1 : World) : Prop where
  b : Below W.heap.size W W1
instance upRefl (W : World) : Nonempty (Up W W) := ⟨⟨Below.refl _ _⟩⟩
instance upAlloc (W W1 : World) (o : Obj) [h : Nonempty (Up W W1)] : Nonempty (Up W (W1.alloc o)) := ⟨⟨zBa (h.elim fun u => u.b) o⟩⟩
instance upDrew (W W1 : World) [h : Nonempty (Up W W1)] : Nonempty (Up W W1.drew) := ⟨⟨below_drew (h.elim fun u => u.b)⟩⟩
instance upDrewN (W W1 : World) (n : Nat) [h : Nonempty (Up W W1)] : Nonempty (Up W (W1.drewN n)) := ⟨⟨zBn (h.elim fun u => u.b) n⟩⟩
structure Own (w : World) (g : Nat) : Prop where
  h : w.heap.size ≤ g
theorem ownGe {w : World} {g : Nat} (h : w.heap.size ≤ g) : Nonempty (Own w g) := ⟨⟨h⟩⟩
structure UpB (w W W1 : World) : Prop where
  f : Below w.heap.size w W → Below w.heap.size w W1
instance upbRefl (w W : World) : Nonempty (UpB w W W) := ⟨⟨id⟩⟩
instance upbAlloc (w W W1 : World) (o : Obj) [h : Nonempty (UpB w W W1)] : Nonempty (UpB w W (W1.alloc o)) := ⟨⟨fun x => zBa (h.elim fun u => u.f x) o⟩⟩
instance upbDrew (w W W1 : World) [h : Nonempty (UpB w W W1)] : Nonempty (UpB w W W1.drew) := ⟨⟨fun x => below_drew (h.elim fun u => u.f x)⟩⟩
instance upbDrewN (w W W1 : World) (n : Nat) [h : Nonempty (UpB w W W1)] : Nonempty (UpB w W (W1.drewN n)) := ⟨⟨fun x => zBn (h.elim fun u => u.f x) n⟩⟩
instance upbSet (w W W1 : World) (g j : Nat) (v : Value) [h : Nonempty (UpB w W W1)] [g0 : Nonempty (Own w g)] : Nonempty (UpB w W (W1.setCell ⟨g, j, none⟩ v)) := ⟨⟨fun x => below_set (h.elim fun u => u.f x) (g0.elim fun u => u.h)⟩⟩
theorem uT {w W W1 : World} (h : Below w.heap.size w W) [u : Nonempty (UpB w W W1)] : Below w.heap.size w W1 := (u.elim fun u => u.f) h
theorem uR {α : Type} {d : Kd α} {e base : Nat} {ok : Nat → Prop} {v : Value} {xs : List α} {W W1 : World} (h : d.R e W base ok v xs) [u : Nonempty (Up W W1)] : d.R e W1 base ok v xs := zRb h (u.elim fun u => u.b)
theorem uC {α : Type} {d : Kd α} {A : Option Addr} {n : Nat} {xs : List α} {W W1 : World} (h : d.C W A n xs) [u : Nonempty (Up W W1)] : d.C W1 A n xs := Kd.C_below h (u.elim fun u => u.b)
theorem bnd {α β : Type} {x : Option α} {f : α → Option β} {b : β} (h : x.bind f = some b) : ∃ a, x = some a ∧ f a = some b := Option.bind_eq_some_iff.mp h
theorem bsm {α β : Type} {x : α} {f : α → Option β} {b : Option β} (h : (some x).bind f = b) : f x = b := h
end Go.Proofs.YteicpdkembmilaaW.PrintWords
namespace Go.Proofs.Yteicpdkembmilaa.A
open Go Go.RowKit Go.Proofs.YteicpdkembmilaaW.PrintWords Go.Proofs.YteicpdkembmilaaW.PrintLast Go.Proofs.YteicpdkembmilaaW.PrintMore
attribute [local go_sem] max2_int min2_int max_two min_two max_three min_three max_four min_four
open Go.Proofs.YteicpdkembmilaaW.PrintWords.Kd renaming R_alloc → zRa, R_drewN → zRn, R_drew → zRd, C_alloc → zCa, C_drewN → zCn, C_drew → zCd, R_mono → zRm, at_int → zAi, R_elder' → zRe, R_lower → zRl, R_new' → zRw, R_lt → zRt, R_below → zRb, R_base → zRz, R_reads' → zRr, R_slice → zRs
open Go.Proofs.YteicpdkembmilaaW.PrintWords renaming pw_below_drewN → zBn, below_alloc → zBa, below_drew1 → zBd, below_size → zBs, below_step → zBt, blk_drewN → zKn, blk_drew → zKd, blk_alloc → zKa, blk_below → zKb, blk_cell → zKc, blk_frozen → zKf
open List renaming setIfInBounds_toArray → zSa, set_cons_zero → zSb, set_cons_succ → zSc, length_drop → zLd, length_take → zLt, map_toArray → zMa, map_cons → zMc, map_nil → zMn, length_cons → zLc, length_nil → zLn
open Go.Proofs.YteicpdkembmilaaW.PrintWords.Aside0 renaming mk → zMk
open Option renaming bind_eq_some_iff → zBi, bind_some → zOb
open Option.some renaming inj → zOi
open Int renaming toNat_natCast → zTn



def errW : Option Int → Value
  | none => .nilIface
  | some c => .iface 0 (.int .i64 c)
theorem errW_none : errW none = .nilIface := rfl
theorem errW_some (c : Int) : errW (some c) = .iface 0 (.int .i64 c) := rfl

theorem info3 : (Try.prog.info? 3).map (fun i => (i.zero, i.size, i.bytes)) = some (some (.int .i64 0), 1, 8) := by kernel_rfl
theorem info4 : (Try.prog.info? 4).map (fun i => (i.zero, i.size, i.bytes)) = some (some (.bool false), 1, 1) := by kernel_rfl
theorem info33 : (Try.prog.info? 33).map (fun i => (i.zero, i.size, i.bytes)) = some (some (.slice none 0 0), 1, 24) := by kernel_rfl
theorem info36 : (Try.prog.info? 36).map (fun i => (i.zero, i.size, i.bytes)) = some (some (.agg #[(.int .i64 0), (.int .i64 0), (.int .i64 0)]), 3, 24) := by kernel_rfl
-- the values' own types
structure S36 where
  f0 : Int
  f1 : Int
  f2 : Int
def z36 : S36 := ⟨(0 : Int), (0 : Int), (0 : Int)⟩
def k36 : Kd S36 := Kd.iso (Kd.pair (Kd.int .i64) (Kd.pair (Kd.int .i64) (Kd.int .i64))) (fun x : S36 => (x.f0, x.f1, x.f2))
theorem k36_open {w : World} {x : S36} {cs : List Value} (h : k36.K w x cs) : cs = [.int .i64 x.f0, .int .i64 x.f1, .int .i64 x.f2] := by
  obtain ⟨_, _, rfl, rfl, ⟨_, _, rfl, rfl, rfl⟩⟩ := h
  exact rfl
theorem k36_openM {w : World} {base : Nat} {ok : Nat → Prop} {x : S36} {cs : List Value} (h : k36.M w base ok x cs) : cs = [.int .i64 x.f0, .int .i64 x.f1, .int .i64 x.f2] := by
  obtain ⟨_, _, rfl, rfl, ⟨_, _, rfl, rfl, rfl⟩⟩ := h
  exact rfl
theorem k36_mk (w : World) (x : S36)  : k36.K w x [.int .i64 x.f0, .int .i64 x.f1, .int .i64 x.f2] := ⟨[.int .i64 x.f0], [.int .i64 x.f1, .int .i64 x.f2], rfl, rfl, ⟨[.int .i64 x.f1], [.int .i64 x.f2], rfl, rfl, rfl⟩⟩
theorem k36_mkM (w : World) (base : Nat) (ok : Nat → Prop) (x : S36)  : k36.M w base ok x [.int .i64 x.f0, .int .i64 x.f1, .int .i64 x.f2] := ⟨[.int .i64 x.f0], [.int .i64 x.f1, .int .i64 x.f2], rfl, rfl, ⟨[.int .i64 x.f1], [.int .i64 x.f2], rfl, rfl, rfl⟩⟩
def rd_T36 (xs : List S36) (i : Int) : S36 := xs.getD i.toNat z36
theorem at_T36 {w : World} {A : Option Addr} {n : Nat} {xs : List S36} (h : Kd.C k36 w A n xs) (i : Int) (h0 : 0 ≤ i) (h1 : i < n) : ∃ ad , A = some ad ∧ w.cell? (ad.add (i.toNat * 3)) = some (.int .i64 (rd_T36 xs i).f0) ∧ w.cell? ⟨(ad.add (i.toNat * 3)).block, (ad.add (i.toNat * 3)).off + 1, none⟩ = some (.int .i64 (rd_T36 xs i).f1) ∧ w.cell? ⟨(ad.add (i.toNat * 3)).block, (ad.add (i.toNat * 3)).off + 2, none⟩ = some (.int .i64 (rd_T36 xs i).f2) := by
  obtain ⟨ad, c, e, _, hK, hc0⟩ := Kd.C_get h z36 i h0 h1
  have hc : ∀ j u, c[j]? = some u → w.cell? (ad.add (i.toNat * 3 + j)) = some u := hc0
  obtain rfl := k36_open hK
  exact ⟨ad, e, hc 0 _ rfl, by rw [← add_field _ _ 1 (by omega)]; exact hc 1 _ rfl, by rw [← add_field _ _ 2 (by omega)]; exact hc 2 _ rfl⟩

def rd_L5 (xs : List (List Int)) (i : Int) : (List Int) := xs.getD i.toNat ([] : List Int)
theorem at_L5 {w : World} {A : Option Addr} {n : Nat} {xs : List (List Int)} (h : Kd.C (Kd.slice 3 (Kd.int .i64)) w A n xs) (i : Int) (h0 : 0 ≤ i) (h1 : i < n) : ∃ ad A0 c0, A = some ad ∧ w.cell? (ad.add i.toNat) = some (.slice A0 (rd_L5 xs i).length c0) ∧ (rd_L5 xs i).length ≤ c0 ∧ (Kd.int .i64).C w A0 (rd_L5 xs i).length (rd_L5 xs i) := by
  obtain ⟨ad, c, e, _, hK, hc0⟩ := Kd.C_get h ([] : List Int) i h0 h1
  have hc : ∀ j u, c[j]? = some u → w.cell? (ad.add (i.toNat * 1 + j)) = some u := hc0
  obtain ⟨A0, c0, rfl, l0, g0⟩ := hK
  exact ⟨ad, A0, c0, e, by have hq := hc 0 _ rfl; rwa [Nat.mul_one, Nat.add_zero] at hq, l0, g0⟩


def graph_sizes.f (a0 : Int) (a1 : Int) : Option (Int) := if a0 < 0 then (some 1) else (if a0 > 1048576 then (some 4) else (if a1 > 4194304 then (some 4) else (some 0)))
theorem graph_sizes.calls (a0 : Int) (a1 : Int) (r : Int) (w : World) (h : graph_sizes.f a0 a1 = some r) :
    Calls Try.prog 32 #[.int .i64 a0, .int .i64 a1] w fun e w' => e = .returned (.int .i64 r) ∧ Drawn0 w w' := by
  have H : (if a0 < 0 then (some 1) else (if a0 > 1048576 then (some 4) else (if a1 > 4194304 then (some 4) else (some 0)))) = some r := h
  clear h
  by_cases c3 : a0 < 0
  · rw [if_pos c3] at H
    have c3b0 : decide (a0 < 0) = true := decide_eq_true c3
    clear c3
    obtain rfl := zOi H
    go_enter Try.func32, Try.ntmps32
    go_wp2
    go_ret
    exact ⟨by first | rfl | (simp; done) | (simp [*]; done), by repeat (first | exact Drawn0.refl _ | apply Drawn0.step)⟩
  · rw [if_neg c3] at H
    have c3b0 : decide (a0 < 0) = false := decide_eq_false c3
    clear c3
    by_cases c4 : a0 > 1048576
    · rw [if_pos c4] at H
      have c4b0 : decide (1048576 < a0) = true := decide_eq_true c4
      clear c4
      obtain rfl := zOi H
      go_enter Try.func32, Try.ntmps32
      go_wp2
      go_ret
      exact ⟨by first | rfl | (simp; done) | (simp [*]; done), by repeat (first | exact Drawn0.refl _ | apply Drawn0.step)⟩
    · rw [if_neg c4] at H
      have c4b0 : decide (1048576 < a0) = false := decide_eq_false c4
      clear c4
      by_cases c5 : a1 > 4194304
      · rw [if_pos c5] at H
        have c5b0 : decide (4194304 < a1) = true := decide_eq_true c5
        clear c5
        obtain rfl := zOi H
        go_enter Try.func32, Try.ntmps32
        go_wp2
        go_ret
        exact ⟨by first | rfl | (simp; done) | (simp [*]; done), by repeat (first | exact Drawn0.refl _ | apply Drawn0.step)⟩
      · rw [if_neg c5] at H
        have c5b0 : decide (4194304 < a1) = false := decide_eq_false c5
        clear c5
        obtain rfl := zOi H
        go_enter Try.func32, Try.ntmps32
        go_wp2
        go_ret
        exact ⟨by first | rfl | (simp; done) | (simp [*]; done), by repeat (first | exact Drawn0.refl _ | apply Drawn0.step)⟩


def graph_alone.j0 : Nat → Bool → Int → Int → Int → Option (Int)
  | 0, _, _, _, _ => none
  | k + 1, x5, x102000, x102001, x102002 => if x5 = true then (some 5) else (if x102000 = x102001 then (some 6) else (if x102002 ≤ (-2147483648) then (some 8) else (if x102002 ≥ 2147483648 then (some 8) else (some 0))))
def graph_alone.f (k : Nat) (a0 : Int) (a1_0 : Int) (a1_1 : Int) (a1_2 : Int) : Option (Int) := if (mn a1_0 a1_1) < 0 then (graph_alone.j0 k true a1_0 a1_1 a1_2) else (graph_alone.j0 k (decide ((mx a1_0 a1_1) ≥ a0)) a1_0 a1_1 a1_2)
theorem graph_alone.calls (k : Nat) (a0 : Int) (a1_0 : Int) (a1_1 : Int) (a1_2 : Int) (r : Int) (w : World) (h : graph_alone.f k a0 a1_0 a1_1 a1_2 = some r) :
    Calls Try.prog 33 #[.int .i64 a0, .agg #[.int .i64 a1_0, .int .i64 a1_1, .int .i64 a1_2]] w fun e w' => e = .returned (.int .i64 r) ∧ Below w.heap.size w w' := by
  have hu36 := Try.underlying36
  have HB := zMk (Below.refl w.heap.size w)
  have H : (if (mn a1_0 a1_1) < 0 then (graph_alone.j0 k true a1_0 a1_1 a1_2) else (graph_alone.j0 k (decide ((mx a1_0 a1_1) ≥ a0)) a1_0 a1_1 a1_2)) = some r := h
  clear h
  have HC3 := zMk H
  clear H
  go_enter Try.func33, Try.ntmps33
  go_upto_region 1 with (first | ((with_reducible refine gate_dst (N := 3) rfl ?_); (try (refine gate_guard (by rfl) ?_; dsimp only)); refine box_event ?hg (N := 3) ?hd (cs := #[.int .i64 a1_0, .int .i64 a1_1, .int .i64 a1_2]) (t := 36) ?hr ?_; (case hd => rfl); (case hg => rfl); (case hr => first | (go_simp; done)|(go_simp; rfl)|(go_simp; rw [show ∀ x : Int, IntKind.u32.wrap (IntKind.u8.wrap x) = x % 256 from fun x => (by show (x % 256) % 4294967296 = x % 256; omega)])); intro gb101 hg w4 hbox hb; have BK101 := zMk (hbox); have GW101 := zMk ((by rw [hg]; exact (zBs (by exact uT HB.out)) : w.heap.size ≤ gb101)); have GE101 := zMk ((by rw [hg]; exact (zBs (by exact uT HB.out)) : w.heap.size ≤ gb101)); have IGE101 := ownGe GE101.out; replace HB := zMk (zBt (by exact uT HB.out) hb); clear hb hbox hg))
  (try simp only [Act.put, zSa, zSb, zSc])
  go_cut [5] (fun v5 wc => ∃ (kq : Nat) (x5_2 : Bool), v5 = .bool x5_2 ∧ Aside0 (graph_alone.j0 kq x5_2 a1_0 a1_1 a1_2 = some r) ∧ Aside0 (kq ≤ k) ∧ Aside0 (wc.heap[gb101]? = some (.cells #[.int .i64 a1_0, .int .i64 a1_1, .int .i64 a1_2] 36 (0, 0))) ∧ Aside0 (Below w.heap.size w wc))
  case first =>
    have H := HC3.out
    clear HC3
    obtain ⟨ji5, hji5⟩ : ∃ j_ : Int, (mn a1_0 a1_1) = j_ := ⟨_, rfl⟩
    replace H : (if (ji5) < 0 then (graph_alone.j0 k true a1_0 a1_1 a1_2) else (graph_alone.j0 k (decide ((mx a1_0 a1_1) ≥ a0)) a1_0 a1_1 a1_2)) = some r := by first | (rw [hji5] at H; exact H) | (simp only [hji5] at H ⊢; exact H)
    have hji5_ : (if a1_1 < a1_0 then a1_1 else a1_0) = ji5 := hji5
    by_cases c6 : (ji5) < 0
    · rw [if_pos c6] at H
      have c6b0 : decide ((ji5) < 0) = true := decide_eq_true c6
      clear c6
      (first | rw [c6b0] | (simp only [i64_w, i32_w]; rw [c6b0]) | rw [c6b1] | skip)
      have H' := zMk H
      clear H
      have hcz7_0 : w4.cell? ⟨gb101, 0, none⟩ = some (.int .i64 a1_0) := (zKc BK101.out 0).trans rfl
      have hcz7_1 : w4.cell? ⟨gb101, 1, none⟩ = some (.int .i64 a1_1) := (zKc BK101.out 1).trans rfl
      have hcz7_2 : w4.cell? ⟨gb101, 2, none⟩ = some (.int .i64 a1_2) := (zKc BK101.out 2).trans rfl
      have hfz7_0 := zKf BK101.out 0
      have hfz7_1 := zKf BK101.out 1
      have hfz7_2 := zKf BK101.out 2
      go_wp2
      go_meet
      case rel => exact ⟨_, (true), (by first | rfl | (simp; done) | (simp [*]; done)), H', ⟨by first | omega | exact Nat.le_refl _⟩, ⟨by (with_reducible repeat (first | refine zKn ?_ _ | refine zKd ?_ | refine zKa ?_ _)); exact BK101.out⟩, ⟨by exact uT HB.out⟩⟩
    · rw [if_neg c6] at H
      have c6b0 : decide ((ji5) < 0) = false := decide_eq_false c6
      clear c6
      (first | rw [c6b0] | (simp only [i64_w, i32_w]; rw [c6b0]) | rw [c6b1] | skip)
      obtain ⟨ji8, hji8⟩ : ∃ j_ : Int, (mx a1_0 a1_1) = j_ := ⟨_, rfl⟩
      replace H : (graph_alone.j0 k (decide ((ji8) ≥ a0)) a1_0 a1_1 a1_2) = some r := by first | (rw [hji8] at H; exact H) | (simp only [hji8] at H ⊢; exact H)
      have hji8_ : (if a1_0 < a1_1 then a1_1 else a1_0) = ji8 := hji8
      have H' := zMk H
      clear H
      have hcz9_0 : w4.cell? ⟨gb101, 0, none⟩ = some (.int .i64 a1_0) := (zKc BK101.out 0).trans rfl
      have hcz9_1 : w4.cell? ⟨gb101, 1, none⟩ = some (.int .i64 a1_1) := (zKc BK101.out 1).trans rfl
      have hcz9_2 : w4.cell? ⟨gb101, 2, none⟩ = some (.int .i64 a1_2) := (zKc BK101.out 2).trans rfl
      have hfz9_0 := zKf BK101.out 0
      have hfz9_1 := zKf BK101.out 1
      have hfz9_2 := zKf BK101.out 2
      go_wp2
      go_meet
      case rel => exact ⟨_, (decide ((ji8) ≥ a0)), (by first | rfl | (simp; done) | (simp only [← hji8] <;> (first | rfl | simp)) | (simp [*]; done)), H', ⟨by first | omega | exact Nat.le_refl _⟩, ⟨by (with_reducible repeat (first | refine zKn ?_ _ | refine zKd ?_ | refine zKa ?_ _)); exact BK101.out⟩, ⟨by exact uT HB.out⟩⟩
  case rest =>
    clear HC3
    obtain ⟨kq, x5_2, rfl, HA, HJ2, BK101, HB⟩ := hcut
    rcases kq with _ | kj2
    · exact absurd HA.out (by simp [graph_alone.j0])
    have H := HA.out
    clear HA
    simp only [graph_alone.j0] at H
    by_cases c10 : x5_2 = true
    · subst c10
      replace H : (some 5) = some r := by rw [if_pos rfl] at H; exact H
      obtain rfl := zOi H
      go_wp2
      go_ret
      exact ⟨by first | rfl | (simp [errW_none, errW_some] <;> rfl) | (simp [*, errW_none, errW_some] <;> rfl), by exact uT HB.out⟩
    · replace c10 := Bool.eq_false_iff.mpr c10
      subst c10
      replace H : (if a1_0 = a1_1 then (some 6) else (if a1_2 ≤ (-2147483648) then (some 8) else (if a1_2 ≥ 2147483648 then (some 8) else (some 0)))) = some r := by rw [if_neg (show ¬ (false = true) by decide)] at H; exact H
      by_cases c11 : a1_0 = a1_1
      · rw [if_pos c11] at H
        have c11b0 : (a1_0 == a1_1) = true := beq_iff_eq.mpr c11
        have c11b1 : (a1_0 != a1_1) = false := bne_eq_false_iff_eq.mpr c11
        clear c11
        obtain rfl := zOi H
        have hcz12_0 : wc.cell? ⟨gb101, 0, none⟩ = some (.int .i64 a1_0) := (zKc BK101.out 0).trans rfl
        have hcz12_1 : wc.cell? ⟨gb101, 1, none⟩ = some (.int .i64 a1_1) := (zKc BK101.out 1).trans rfl
        have hcz12_2 : wc.cell? ⟨gb101, 2, none⟩ = some (.int .i64 a1_2) := (zKc BK101.out 2).trans rfl
        have hfz12_0 := zKf BK101.out 0
        have hfz12_1 := zKf BK101.out 1
        have hfz12_2 := zKf BK101.out 2
        go_wp2
        go_ret
        exact ⟨by first | rfl | (simp [errW_none, errW_some] <;> rfl) | (simp [*, errW_none, errW_some] <;> rfl), by exact uT HB.out⟩
      · rw [if_neg c11] at H
        have c11b0 : (a1_0 == a1_1) = false := beq_eq_false_iff_ne.mpr c11
        have c11b1 : (a1_0 != a1_1) = true := bne_iff_ne.mpr c11
        by_cases c13 : a1_2 ≤ (-2147483648)
        · rw [if_pos c13] at H
          have c13b0 : decide (a1_2 ≤ (-2147483648)) = true := decide_eq_true c13
          clear c13
          obtain rfl := zOi H
          have hcz14_0 : wc.cell? ⟨gb101, 0, none⟩ = some (.int .i64 a1_0) := (zKc BK101.out 0).trans rfl
          have hcz14_1 : wc.cell? ⟨gb101, 1, none⟩ = some (.int .i64 a1_1) := (zKc BK101.out 1).trans rfl
          have hcz14_2 : wc.cell? ⟨gb101, 2, none⟩ = some (.int .i64 a1_2) := (zKc BK101.out 2).trans rfl
          have hfz14_0 := zKf BK101.out 0
          have hfz14_1 := zKf BK101.out 1
          have hfz14_2 := zKf BK101.out 2
          go_wp2
          go_ret
          exact ⟨by first | rfl | (simp [errW_none, errW_some] <;> rfl) | (simp [*, errW_none, errW_some] <;> rfl), by exact uT HB.out⟩
        · rw [if_neg c13] at H
          have c13b0 : decide (a1_2 ≤ (-2147483648)) = false := decide_eq_false c13
          clear c13
          by_cases c15 : a1_2 ≥ 2147483648
          · rw [if_pos c15] at H
            have c15b0 : decide (2147483648 ≤ a1_2) = true := decide_eq_true c15
            clear c15
            obtain rfl := zOi H
            have hcz16_0 : wc.cell? ⟨gb101, 0, none⟩ = some (.int .i64 a1_0) := (zKc BK101.out 0).trans rfl
            have hcz16_1 : wc.cell? ⟨gb101, 1, none⟩ = some (.int .i64 a1_1) := (zKc BK101.out 1).trans rfl
            have hcz16_2 : wc.cell? ⟨gb101, 2, none⟩ = some (.int .i64 a1_2) := (zKc BK101.out 2).trans rfl
            have hfz16_0 := zKf BK101.out 0
            have hfz16_1 := zKf BK101.out 1
            have hfz16_2 := zKf BK101.out 2
            go_wp2
            go_ret
            exact ⟨by first | rfl | (simp [errW_none, errW_some] <;> rfl) | (simp [*, errW_none, errW_some] <;> rfl), by exact uT HB.out⟩
          · rw [if_neg c15] at H
            have c15b0 : decide (2147483648 ≤ a1_2) = false := decide_eq_false c15
            clear c15
            obtain rfl := zOi H
            have hcz17_0 : wc.cell? ⟨gb101, 0, none⟩ = some (.int .i64 a1_0) := (zKc BK101.out 0).trans rfl
            have hcz17_1 : wc.cell? ⟨gb101, 1, none⟩ = some (.int .i64 a1_1) := (zKc BK101.out 1).trans rfl
            have hcz17_2 : wc.cell? ⟨gb101, 2, none⟩ = some (.int .i64 a1_2) := (zKc BK101.out 2).trans rfl
            have hfz17_0 := zKf BK101.out 0
            have hfz17_1 := zKf BK101.out 1
            have hfz17_2 := zKf BK101.out 2
            go_wp2
            go_ret
            exact ⟨by first | rfl | (simp [errW_none, errW_some] <;> rfl) | (simp [*, errW_none, errW_some] <;> rfl), by exact uT HB.out⟩


def cmp_Or_int.l0 : Nat → Int → List Int → Int → Int → Option (Int)
  | 0, _, _, _, _ => none
  | k + 1, x3, x6, x7, x8 => if x8 < x7 then (if 0 ≤ x8 then (if x8 < (x6.length : Int) then (if (rd x6 x8) = x3 then (cmp_Or_int.l0 k x3 x6 x7 (wrap64 (x8 + 1))) else (some (rd x6 x8))) else (none)) else (none)) else (some x3)
def cmp_Or_int.f (k : Nat) (l0 : List Int) : Option (Int) := cmp_Or_int.l0 k 0 l0 (l0.length : Int) 0
theorem cmp_Or_int.calls (k : Nat) (A0 : Option Addr) (c0 : Nat) (l0 : List Int) (r : Int) (w : World) (hr0 : Kd.C (Kd.int .i64) w A0 l0.length l0) (hc0 : l0.length ≤ c0) (h : cmp_Or_int.f k l0 = some r) :
    Calls Try.prog 48 #[.slice A0 l0.length c0] w fun e w' => e = .returned (.int .i64 r) ∧ Drawn0 w w' := by
  have HR0 := zMk hr0
  have HC0 := zMk hc0
  clear hr0 hc0
  have H : (cmp_Or_int.l0 k 0 l0 (l0.length : Int) 0) = some r := h
  clear h
  have H' := zMk H
  clear H
  go_enter Try.func48, Try.ntmps48
  go_wp2
  go_loopg [8] k (fun kq v8 w' => ∃ (x8_1 : Int), v8 = .int .i64 x8_1 ∧ Aside0 (cmp_Or_int.l0 kq 0 l0 (l0.length : Int) x8_1 = some r) ∧ Aside0 (kq ≤ k) ∧ Drawn0 w w')
  case atStart => exact ⟨(0), (by first | rfl | (simp; done) | (simp [*]; done)), H', ⟨Nat.le_refl _⟩, by repeat (first | exact Drawn0.refl _ | apply Drawn0.step)⟩
  clear H'
  obtain ⟨x8_1, rfl, HA, HK1, ⟨m1, rfl⟩⟩ := hrel
  rcases gk with _ | k1
  · exact absurd HA.out (by simp [cmp_Or_int.l0])
  have H := HA.out
  clear HA
  simp only [cmp_Or_int.l0] at H
  by_cases c2 : x8_1 < (l0.length : Int)
  · rw [if_pos c2] at H
    have c2b0 : decide (x8_1 < (l0.length : Int)) = true := decide_eq_true c2
    clear c2
    by_cases c3 : 0 ≤ x8_1
    rotate_left
    · rw [if_neg c3] at H; exact absurd H (by simp)
    rw [if_pos c3] at H
    have c3b0 : decide (0 ≤ x8_1) = true := decide_eq_true c3
    clear c3
    by_cases c4 : x8_1 < (l0.length : Int)
    rotate_left
    · rw [if_neg c4] at H; exact absurd H (by simp)
    rw [if_pos c4] at H
    have c4b0 : decide (x8_1 < (l0.length : Int)) = true := decide_eq_true c4
    clear c4
    by_cases c5 : (rd l0 x8_1) = 0
    · rw [if_pos c5] at H
      have c5b0 : ((rd l0 x8_1) == 0) = true := beq_iff_eq.mpr c5
      have c5b1 : ((rd l0 x8_1) != 0) = false := bne_eq_false_iff_eq.mpr c5
      clear c5
      have H' := zMk H
      clear H
      have p102 : 0 ≤ (x8_1 : Int) := of_decide_eq_true (by assumption)
      have q102 : x8_1 < (l0.length : Int) := of_decide_eq_true (by assumption)
      obtain ⟨ad102, e102, hx102_0⟩ := zAi HR0.out x8_1 p102 q102
      cases e102
      replace p102 := eq_true p102
      replace q102 := eq_true q102
      go_wp2
      go_roundg k1
      case measure => have := HK1.out; omega
      case rel => exact ⟨(wrap64 (x8_1 + 1)), (by first | rfl | (simp; done) | (simp [*]; done)), H', ⟨by have := HK1.out; omega⟩, by repeat (first | exact Drawn0.refl _ | apply Drawn0.step)⟩
    · rw [if_neg c5] at H
      have c5b0 : ((rd l0 x8_1) == 0) = false := beq_eq_false_iff_ne.mpr c5
      have c5b1 : ((rd l0 x8_1) != 0) = true := bne_iff_ne.mpr c5
      obtain rfl := zOi H
      have p102 : 0 ≤ (x8_1 : Int) := of_decide_eq_true (by assumption)
      have q102 : x8_1 < (l0.length : Int) := of_decide_eq_true (by assumption)
      obtain ⟨ad102, e102, hx102_0⟩ := zAi HR0.out x8_1 p102 q102
      cases e102
      replace p102 := eq_true p102
      replace q102 := eq_true q102
      go_wp2
      go_ret
      exact ⟨by first | rfl | (simp; done) | (simp [*]; done), by repeat (first | exact Drawn0.refl _ | apply Drawn0.step)⟩
  · rw [if_neg c2] at H
    have c2b0 : decide (x8_1 < (l0.length : Int)) = false := decide_eq_false c2
    clear c2
    obtain rfl := zOi H
    go_wp2
    go_ret
    exact ⟨by first | rfl | (simp; done) | (simp [*]; done), by repeat (first | exact Drawn0.refl _ | apply Drawn0.step)⟩


def cmp_isNaN_int.f (a0 : Int) : Option (Bool) := some (a0 != a0)
theorem cmp_isNaN_int.calls (a0 : Int) (r : Bool) (w : World) (h : cmp_isNaN_int.f a0 = some r) :
    Calls Try.prog 53 #[.int .i64 a0] w fun e w' => e = .returned (.bool r) ∧ Drawn0 w w' := by
  have H : (some (a0 != a0)) = some r := h
  clear h
  obtain rfl := zOi H
  go_enter Try.func53, Try.ntmps53
  go_wp2
  go_ret
  exact ⟨by first | rfl | (simp; done) | (simp [*]; done), by repeat (first | exact Drawn0.refl _ | apply Drawn0.step)⟩


def cmp_Compare_int.f (a0 : Int) (a1 : Int) : Option (Int) := (cmp_isNaN_int.f a0).bind fun t103 => ((cmp_isNaN_int.f a1).bind fun t104 => (if t103 = true then (if t104 = true then (some 0) else (some (-1))) else (if t104 = true then (some 1) else (if a0 < a1 then (some (-1)) else (if a0 > a1 then (some 1) else (some 0))))))
theorem cmp_Compare_int.calls (a0 : Int) (a1 : Int) (r : Int) (w : World) (h : cmp_Compare_int.f a0 a1 = some r) :
    Calls Try.prog 49 #[.int .i64 a0, .int .i64 a1] w fun e w' => e = .returned (.int .i64 r) ∧ Drawn0 w w' := by
  have H : ((cmp_isNaN_int.f a0).bind fun t103 => ((cmp_isNaN_int.f a1).bind fun t104 => (if t103 = true then (if t104 = true then (some 0) else (some (-1))) else (if t104 = true then (some 1) else (if a0 < a1 then (some (-1)) else (if a0 > a1 then (some 1) else (some 0))))))) = some r := h
  clear h
  replace H := bnd H
  obtain ⟨t103, A30, H⟩ := H
  have A3 := zMk A30
  clear A30
  replace H := bnd H
  obtain ⟨t104, A40, H⟩ := H
  have A4 := zMk A40
  clear A40
  by_cases c5 : t103 = true
  · subst c5
    replace H : (if t104 = true then (some 0) else (some (-1))) = some r := by rw [if_pos rfl] at H; exact H
    by_cases c6 : t104 = true
    · subst c6
      replace H : (some 0) = some r := by rw [if_pos rfl] at H; exact H
      obtain rfl := zOi H
      go_enter Try.func49, Try.ntmps49
      go_wp2_with (first | ((with_reducible refine gate_callee (f := 53) rfl ?_); refine goesL_ (some 8) rfl rfl Try.func53 (by kernel_rfl) rfl #[.int .i64 a0] rfl (by (try simp only [zMa, zMc, zMn]); first | done | rfl | (simp only [zLd, zLt]; rfl)) ?_; (with_reducible refine (cmp_isNaN_int.calls a0 true _ A3.out).mono ?_); rintro e w' ⟨rfl, ⟨nd, rfl⟩⟩; refine ⟨_, rfl, ?_⟩) | ((with_reducible refine gate_callee (f := 53) rfl ?_); refine goesL_ (some 10) rfl rfl Try.func53 (by kernel_rfl) rfl #[.int .i64 a1] rfl (by (try simp only [zMa, zMc, zMn]); first | done | rfl | (simp only [zLd, zLt]; rfl)) ?_; (with_reducible refine (cmp_isNaN_int.calls a1 true _ A4.out).mono ?_); rintro e w' ⟨rfl, ⟨nd, rfl⟩⟩; refine ⟨_, rfl, ?_⟩))
      go_ret
      exact ⟨by first | rfl | (simp; done) | (simp [*]; done), by repeat (first | exact Drawn0.refl _ | apply Drawn0.step)⟩
    · replace c6 := Bool.eq_false_iff.mpr c6
      subst c6
      replace H : (some (-1)) = some r := by rw [if_neg (show ¬ (false = true) by decide)] at H; exact H
      obtain rfl := zOi H
      go_enter Try.func49, Try.ntmps49
      go_wp2_with (first | ((with_reducible refine gate_callee (f := 53) rfl ?_); refine goesL_ (some 8) rfl rfl Try.func53 (by kernel_rfl) rfl #[.int .i64 a0] rfl (by (try simp only [zMa, zMc, zMn]); first | done | rfl | (simp only [zLd, zLt]; rfl)) ?_; (with_reducible refine (cmp_isNaN_int.calls a0 true _ A3.out).mono ?_); rintro e w' ⟨rfl, ⟨nd, rfl⟩⟩; refine ⟨_, rfl, ?_⟩) | ((with_reducible refine gate_callee (f := 53) rfl ?_); refine goesL_ (some 10) rfl rfl Try.func53 (by kernel_rfl) rfl #[.int .i64 a1] rfl (by (try simp only [zMa, zMc, zMn]); first | done | rfl | (simp only [zLd, zLt]; rfl)) ?_; (with_reducible refine (cmp_isNaN_int.calls a1 false _ A4.out).mono ?_); rintro e w' ⟨rfl, ⟨nd, rfl⟩⟩; refine ⟨_, rfl, ?_⟩))
      go_ret
      exact ⟨by first | rfl | (simp; done) | (simp [*]; done), by repeat (first | exact Drawn0.refl _ | apply Drawn0.step)⟩
  · replace c5 := Bool.eq_false_iff.mpr c5
    subst c5
    replace H : (if t104 = true then (some 1) else (if a0 < a1 then (some (-1)) else (if a0 > a1 then (some 1) else (some 0)))) = some r := by rw [if_neg (show ¬ (false = true) by decide)] at H; exact H
    by_cases c7 : t104 = true
    · subst c7
      replace H : (some 1) = some r := by rw [if_pos rfl] at H; exact H
      obtain rfl := zOi H
      go_enter Try.func49, Try.ntmps49
      go_wp2_with (first | ((with_reducible refine gate_callee (f := 53) rfl ?_); refine goesL_ (some 8) rfl rfl Try.func53 (by kernel_rfl) rfl #[.int .i64 a0] rfl (by (try simp only [zMa, zMc, zMn]); first | done | rfl | (simp only [zLd, zLt]; rfl)) ?_; (with_reducible refine (cmp_isNaN_int.calls a0 false _ A3.out).mono ?_); rintro e w' ⟨rfl, ⟨nd, rfl⟩⟩; refine ⟨_, rfl, ?_⟩) | ((with_reducible refine gate_callee (f := 53) rfl ?_); refine goesL_ (some 10) rfl rfl Try.func53 (by kernel_rfl) rfl #[.int .i64 a1] rfl (by (try simp only [zMa, zMc, zMn]); first | done | rfl | (simp only [zLd, zLt]; rfl)) ?_; (with_reducible refine (cmp_isNaN_int.calls a1 true _ A4.out).mono ?_); rintro e w' ⟨rfl, ⟨nd, rfl⟩⟩; refine ⟨_, rfl, ?_⟩))
      go_ret
      exact ⟨by first | rfl | (simp; done) | (simp [*]; done), by repeat (first | exact Drawn0.refl _ | apply Drawn0.step)⟩
    · replace c7 := Bool.eq_false_iff.mpr c7
      subst c7
      replace H : (if a0 < a1 then (some (-1)) else (if a0 > a1 then (some 1) else (some 0))) = some r := by rw [if_neg (show ¬ (false = true) by decide)] at H; exact H
      by_cases c8 : a0 < a1
      · rw [if_pos c8] at H
        have c8b0 : decide (a0 < a1) = true := decide_eq_true c8
        clear c8
        obtain rfl := zOi H
        go_enter Try.func49, Try.ntmps49
        go_wp2_with (first | ((with_reducible refine gate_callee (f := 53) rfl ?_); refine goesL_ (some 8) rfl rfl Try.func53 (by kernel_rfl) rfl #[.int .i64 a0] rfl (by (try simp only [zMa, zMc, zMn]); first | done | rfl | (simp only [zLd, zLt]; rfl)) ?_; (with_reducible refine (cmp_isNaN_int.calls a0 false _ A3.out).mono ?_); rintro e w' ⟨rfl, ⟨nd, rfl⟩⟩; refine ⟨_, rfl, ?_⟩) | ((with_reducible refine gate_callee (f := 53) rfl ?_); refine goesL_ (some 10) rfl rfl Try.func53 (by kernel_rfl) rfl #[.int .i64 a1] rfl (by (try simp only [zMa, zMc, zMn]); first | done | rfl | (simp only [zLd, zLt]; rfl)) ?_; (with_reducible refine (cmp_isNaN_int.calls a1 false _ A4.out).mono ?_); rintro e w' ⟨rfl, ⟨nd, rfl⟩⟩; refine ⟨_, rfl, ?_⟩))
        go_ret
        exact ⟨by first | rfl | (simp; done) | (simp [*]; done), by repeat (first | exact Drawn0.refl _ | apply Drawn0.step)⟩
      · rw [if_neg c8] at H
        have c8b0 : decide (a0 < a1) = false := decide_eq_false c8
        clear c8
        by_cases c9 : a0 > a1
        · rw [if_pos c9] at H
          have c9b0 : decide (a1 < a0) = true := decide_eq_true c9
          clear c9
          obtain rfl := zOi H
          go_enter Try.func49, Try.ntmps49
          go_wp2_with (first | ((with_reducible refine gate_callee (f := 53) rfl ?_); refine goesL_ (some 8) rfl rfl Try.func53 (by kernel_rfl) rfl #[.int .i64 a0] rfl (by (try simp only [zMa, zMc, zMn]); first | done | rfl | (simp only [zLd, zLt]; rfl)) ?_; (with_reducible refine (cmp_isNaN_int.calls a0 false _ A3.out).mono ?_); rintro e w' ⟨rfl, ⟨nd, rfl⟩⟩; refine ⟨_, rfl, ?_⟩) | ((with_reducible refine gate_callee (f := 53) rfl ?_); refine goesL_ (some 10) rfl rfl Try.func53 (by kernel_rfl) rfl #[.int .i64 a1] rfl (by (try simp only [zMa, zMc, zMn]); first | done | rfl | (simp only [zLd, zLt]; rfl)) ?_; (with_reducible refine (cmp_isNaN_int.calls a1 false _ A4.out).mono ?_); rintro e w' ⟨rfl, ⟨nd, rfl⟩⟩; refine ⟨_, rfl, ?_⟩))
          go_ret
          exact ⟨by first | rfl | (simp; done) | (simp [*]; done), by repeat (first | exact Drawn0.refl _ | apply Drawn0.step)⟩
        · rw [if_neg c9] at H
          have c9b0 : decide (a1 < a0) = false := decide_eq_false c9
          clear c9
          obtain rfl := zOi H
          go_enter Try.func49, Try.ntmps49
          go_wp2_with (first | ((with_reducible refine gate_callee (f := 53) rfl ?_); refine goesL_ (some 8) rfl rfl Try.func53 (by kernel_rfl) rfl #[.int .i64 a0] rfl (by (try simp only [zMa, zMc, zMn]); first | done | rfl | (simp only [zLd, zLt]; rfl)) ?_; (with_reducible refine (cmp_isNaN_int.calls a0 false _ A3.out).mono ?_); rintro e w' ⟨rfl, ⟨nd, rfl⟩⟩; refine ⟨_, rfl, ?_⟩) | ((with_reducible refine gate_callee (f := 53) rfl ?_); refine goesL_ (some 10) rfl rfl Try.func53 (by kernel_rfl) rfl #[.int .i64 a1] rfl (by (try simp only [zMa, zMc, zMn]); first | done | rfl | (simp only [zLd, zLt]; rfl)) ?_; (with_reducible refine (cmp_isNaN_int.calls a1 false _ A4.out).mono ?_); rintro e w' ⟨rfl, ⟨nd, rfl⟩⟩; refine ⟨_, rfl, ?_⟩))
          go_ret
          exact ⟨by first | rfl | (simp; done) | (simp [*]; done), by repeat (first | exact Drawn0.refl _ | apply Drawn0.step)⟩


def graph_order.f (k : Nat) (a0_0 : Int) (a0_1 : Int) (a0_2 : Int) (a1_0 : Int) (a1_1 : Int) (a1_2 : Int) : Option (Int) := (cmp_Compare_int.f a0_0 a1_0).bind fun t107 => ((cmp_Compare_int.f a0_1 a1_1).bind fun t108 => ((cmp_Or_int.f k (([t107, t108] : List Int))).bind fun t112 => (some t112)))
def graph_order.T1 : Bool × List (List Nat × List Nat) := (true, [([], []), ([0], [0]), ([], []), ([2], [2]), ([1, 3], [1, 3]), ([], []), ([5], [5]), ([], []), ([7], [7]), ([6, 8, 4], [6, 8]), ([4, 9], [4, 9]), ([10, 9], [10]), ([11, 11, 0, 1, 2, 3, 4, 5, 6, 7, 8, 9, 10, 11], [11])])
def graph_order.B1 : List Nat := [0, 1, 0, 4, 15, 0, 32, 0, 128, 511, 1023, 2047, 4095]
theorem graph_order.tab1 : rtab .any (opsOf Try.f34 1) = graph_order.T1 := by kernel_rfl
theorem graph_order.bits1 : waitsOk graph_order.T1.2 graph_order.B1 = true := by kernel_rfl
theorem graph_order.calls (k : Nat) (a0_0 : Int) (a0_1 : Int) (a0_2 : Int) (a1_0 : Int) (a1_1 : Int) (a1_2 : Int) (r : Int) (w : World) (h : graph_order.f k a0_0 a0_1 a0_2 a1_0 a1_1 a1_2 = some r) :
    Calls Try.prog 34 #[.agg #[.int .i64 a0_0, .int .i64 a0_1, .int .i64 a0_2], .agg #[.int .i64 a1_0, .int .i64 a1_1, .int .i64 a1_2]] w fun e w' => e = .returned (.int .i64 r) ∧ Below w.heap.size w w' := by
  have hu36 := Try.underlying36
  have HB := zMk (Below.refl w.heap.size w)
  have H : ((cmp_Compare_int.f a0_0 a1_0).bind fun t107 => ((cmp_Compare_int.f a0_1 a1_1).bind fun t108 => ((cmp_Or_int.f k (([t107, t108] : List Int))).bind fun t112 => (some t112)))) = some r := h
  clear h
  replace H := bnd H
  obtain ⟨t107, A30, H⟩ := H
  have A3 := zMk A30
  clear A30
  replace H := bnd H
  obtain ⟨t108, A40, H⟩ := H
  have A4 := zMk A40
  clear A40
  obtain ⟨y109, hy109⟩ : ∃ y_ : List Int, y_ = (([t107, t108] : List Int)) := ⟨_, rfl⟩
  replace H : ((cmp_Or_int.f k y109).bind fun t112 => (some t112)) = some r := by first | (rw [hy109]; with_reducible exact H) | (have H2_ := bsm H; first | (rw [hy109]; with_reducible exact H2_) | with_reducible exact H2_) | with_reducible exact H | (rw [hy109]; exact H) | exact H
  have Ny109 := zMk hy109
  clear hy109
  replace H := bnd H
  obtain ⟨t112, A50, H⟩ := H
  have A5 := zMk A50
  clear A50
  obtain rfl := zOi H
  go_enter Try.func34, Try.ntmps34
  try go_wp2_with (first | ((with_reducible refine gate_dst (N := 2) rfl ?_); refine box_event ?hg (N := 2) ?hd (cs := #[.int .i64 a0_0, .int .i64 a0_1, .int .i64 a0_2]) (t := 36) ?hr ?_; (case hd => rfl); (case hg => rfl); (case hr => first | (go_simp; done)|(go_simp; rfl)|(go_simp; rw [show ∀ x : Int, IntKind.u32.wrap (IntKind.u8.wrap x) = x % 256 from fun x => (by show (x % 256) % 4294967296 = x % 256; omega)])); intro gb105 hg w6 hbox hb; have BK105 := zMk (hbox); have GW105 := zMk ((by rw [hg]; exact (zBs (by exact uT HB.out)) : w.heap.size ≤ gb105)); have GE105 := zMk ((by rw [hg]; exact (zBs (by exact uT HB.out)) : w.heap.size ≤ gb105)); have IGE105 := ownGe GE105.out; replace HB := zMk (zBt (by exact uT HB.out) hb); clear hb hbox hg)|((with_reducible refine gate_dst (N := 3) rfl ?_); refine box_event ?hg (N := 3) ?hd (cs := #[.int .i64 a1_0, .int .i64 a1_1, .int .i64 a1_2]) (t := 36) ?hr ?_; (case hd => rfl); (case hg => rfl); (case hr => first | (go_simp; done)|(go_simp; rfl)|(go_simp; rw [show ∀ x : Int, IntKind.u32.wrap (IntKind.u8.wrap x) = x % 256 from fun x => (by show (x % 256) % 4294967296 = x % 256; omega)])); intro gb106 hg w7 hbox hb; have BK106 := zMk (hbox); have GW106 := zMk ((by rw [hg]; exact (zBs (by exact uT HB.out)) : w.heap.size ≤ gb106)); have GE106 := zMk ((by rw [hg]; exact (zBs (by exact uT HB.out)) : w.heap.size ≤ gb106)); have IGE106 := ownGe GE106.out; replace HB := zMk (zBt (by exact uT HB.out) hb); have NB105_106 := zMk ((by rw [hg]; exact Nat.ne_of_lt (blk_lt (g := gb105) (o := .cells #[.int .i64 a0_0, .int .i64 a0_1, .int .i64 a0_2] 36 (0, 0)) (by (with_reducible repeat (first |  refine zKn ?_ _|  refine zKd ?_|  refine zKa ?_ _)); exact BK105.out)) : gb105 ≠ gb106)); have NB106_105 := zMk ((by rw [hg]; exact Nat.ne_of_gt (blk_lt (g := gb105) (o := .cells #[.int .i64 a0_0, .int .i64 a0_1, .int .i64 a0_2] 36 (0, 0)) (by (with_reducible repeat (first |  refine zKn ?_ _|  refine zKd ?_|  refine zKa ?_ _)); exact BK105.out)) : gb106 ≠ gb105)); replace BK105 := zMk (zKb (g := gb105) (o := .cells #[.int .i64 a0_0, .int .i64 a0_1, .int .i64 a0_2] 36 (0, 0)) (by (with_reducible repeat (first |  refine zKn ?_ _|  refine zKd ?_|  refine zKa ?_ _)); exact BK105.out) hb); clear hb hbox hg))
  replace BK105 := zMk (zKd BK105.out)
  replace BK106 := zMk (zKd BK106.out)
  replace HB := zMk (zBd HB.out)
  refine start_ (n := 13) (S := fun w' => w'.cell? ⟨gb105, 0, none⟩ = some (.int .i64 a0_0) ∧ w'.cell? ⟨gb105, 1, none⟩ = some (.int .i64 a0_1) ∧ w'.cell? ⟨gb105, 2, none⟩ = some (.int .i64 a0_2) ∧ w'.cell? ⟨gb106, 0, none⟩ = some (.int .i64 a1_0) ∧ w'.cell? ⟨gb106, 1, none⟩ = some (.int .i64 a1_1) ∧ w'.cell? ⟨gb106, 2, none⟩ = some (.int .i64 a1_2)) (ds := []) #[false, false, false, false, false, false, false, false, false, false, false, false, false] (by kernel_rfl) rfl rfl ⟨(zKc BK105.out 0).trans rfl, (zKc BK105.out 1).trans rfl, (zKc BK105.out 2).trans rfl, (zKc BK106.out 0).trans rfl, (zKc BK106.out 1).trans rfl, (zKc BK106.out 2).trans rfl⟩ (fun hHeld => ?_); refine with_tabW graph_order.tab1 graph_order.bits1 (fun HT_ HW_ => ?_)
  generalize w7.drew = w8 at BK105 BK106 HB hHeld ⊢
  refine pure_ (i := 0) (N := some 5) (v := ?_) (a' := ?_) #[true, false, false, false, false, false, false, false, false, false, false, false, false] rfl rfl (any_of HT_.out (by kernel_rfl)) (fun _ _ _ h => h) (Or.inl ⟨by rfl, ?_⟩) ?_ ?_
  rotate_left
  · intro w'
    go_simp
    with_reducible rfl
  rotate_left
  · simp only [Act.put, zSa, zSb, zSc, i64_w, i32_w]
    rfl
  refine pure_ (i := 2) (N := some 7) (v := ?_) (a' := ?_) #[true, false, true, false, false, false, false, false, false, false, false, false, false] rfl rfl (any_of HT_.out (by kernel_rfl)) (fun _ _ _ h => h) (Or.inl ⟨by rfl, ?_⟩) ?_ ?_
  rotate_left
  · intro w'
    go_simp
    with_reducible rfl
  rotate_left
  · simp only [Act.put, zSa, zSb, zSc, i64_w, i32_w]
    rfl
  refine pure_ (i := 5) (N := some 10) (v := ?_) (a' := ?_) #[true, false, true, false, false, true, false, false, false, false, false, false, false] rfl rfl (any_of HT_.out (by kernel_rfl)) (fun _ _ _ h => h) (Or.inl ⟨by rfl, ?_⟩) ?_ ?_
  rotate_left
  · intro w'
    go_simp
    with_reducible rfl
  rotate_left
  · simp only [Act.put, zSa, zSb, zSc, i64_w, i32_w]
    rfl
  refine pure_ (i := 7) (N := some 12) (v := ?_) (a' := ?_) #[true, false, true, false, false, true, false, true, false, false, false, false, false] rfl rfl (any_of HT_.out (by kernel_rfl)) (fun _ _ _ h => h) (Or.inl ⟨by rfl, ?_⟩) ?_ ?_
  rotate_left
  · intro w'
    go_simp
    with_reducible rfl
  rotate_left
  · simp only [Act.put, zSa, zSb, zSc, i64_w, i32_w]
    rfl
  refine take_ (i := 1) (N := some 6) (v := ?_) (a' := ?_) #[true, true, true, false, false, true, false, true, false, false, false, false, false] rfl rfl (take_ofW HT_.out HW_.out (by kernel_rfl)) (fun _ _ _ h => h) (Or.inl ⟨by rfl, ?_⟩) hHeld ?_ ?_
  rotate_left
  · rintro w' ⟨s0, s1, s2, s3, s4, s5⟩
    go_simp
    with_reducible rfl
  rotate_left
  · simp only [Act.put, zSa, zSb, zSc, i64_w, i32_w]
    rfl
  refine take_ (i := 3) (N := some 8) (v := ?_) (a' := ?_) #[true, true, true, true, false, true, false, true, false, false, false, false, false] rfl rfl (take_ofW HT_.out HW_.out (by kernel_rfl)) (fun _ _ _ h => h) (Or.inl ⟨by rfl, ?_⟩) hHeld ?_ ?_
  rotate_left
  · rintro w' ⟨s0, s1, s2, s3, s4, s5⟩
    go_simp
    with_reducible rfl
  rotate_left
  · simp only [Act.put, zSa, zSb, zSc, i64_w, i32_w]
    rfl
  refine take_ (i := 6) (N := some 11) (v := ?_) (a' := ?_) #[true, true, true, true, false, true, true, true, false, false, false, false, false] rfl rfl (take_ofW HT_.out HW_.out (by kernel_rfl)) (fun _ _ _ h => h) (Or.inl ⟨by rfl, ?_⟩) hHeld ?_ ?_
  rotate_left
  · rintro w' ⟨s0, s1, s2, s3, s4, s5⟩
    go_simp
    with_reducible rfl
  rotate_left
  · simp only [Act.put, zSa, zSb, zSc, i64_w, i32_w]
    rfl
  refine take_ (i := 8) (N := some 13) (v := ?_) (a' := ?_) #[true, true, true, true, false, true, true, true, true, false, false, false, false] rfl rfl (take_ofW HT_.out HW_.out (by kernel_rfl)) (fun _ _ _ h => h) (Or.inl ⟨by rfl, ?_⟩) hHeld ?_ ?_
  rotate_left
  · rintro w' ⟨s0, s1, s2, s3, s4, s5⟩
    go_simp
    with_reducible rfl
  rotate_left
  · simp only [Act.put, zSa, zSb, zSc, i64_w, i32_w]
    rfl
  refine one_ (i := 4) (N := some 9) #[true, true, true, true, true, true, true, true, true, false, false, false, false] rfl rfl (one_of HT_.out (by kernel_rfl)) (by decide) (fun K hK => ?_)
  refine goes_ Try.func49 (by kernel_rfl) rfl #[.int .i64 a0_0, .int .i64 a1_0] (by rfl) rfl rfl (by (try simp only [zMa, zMc, zMn]); first | done | rfl | (simp only [zLd, zLt]; rfl)) ?_
  with_reducible refine (cmp_Compare_int.calls a0_0 a1_0 t107 _ A3.out).mono ?_
  rintro e w' ⟨rfl, ⟨nd, rfl⟩⟩
  refine ⟨_, rfl, ?_⟩
  refine hK.out _ _ ⟨(zKc BK105.out 0).trans rfl, (zKc BK105.out 1).trans rfl, (zKc BK105.out 2).trans rfl, (zKc BK106.out 0).trans rfl, (zKc BK106.out 1).trans rfl, (zKc BK106.out 2).trans rfl⟩ (fun hHeld => ?_)
  clear hK K
  refine norm_ (a' := ?_) ?_ ?_
  rotate_left
  · show Act.put _ (some 9) _ = _
    simp only [Act.put, zSa, zSb, zSc, i64_w, i32_w]
    rfl
  refine one_ (i := 9) (N := some 14) #[true, true, true, true, true, true, true, true, true, true, false, false, false] rfl rfl (one_of HT_.out (by kernel_rfl)) (by decide) (fun K hK => ?_)
  refine goes_ Try.func49 (by kernel_rfl) rfl #[.int .i64 a0_1, .int .i64 a1_1] (by rfl) rfl rfl (by (try simp only [zMa, zMc, zMn]); first | done | rfl | (simp only [zLd, zLt]; rfl)) ?_
  with_reducible refine (cmp_Compare_int.calls a0_1 a1_1 t108 _ A4.out).mono ?_
  rintro e w' ⟨rfl, ⟨nd, rfl⟩⟩
  refine ⟨_, rfl, ?_⟩
  refine hK.out _ _ ⟨(zKc BK105.out 0).trans rfl, (zKc BK105.out 1).trans rfl, (zKc BK105.out 2).trans rfl, (zKc BK106.out 0).trans rfl, (zKc BK106.out 1).trans rfl, (zKc BK106.out 2).trans rfl⟩ (fun hHeld => ?_)
  clear hK K
  refine norm_ (a' := ?_) ?_ ?_
  rotate_left
  · show Act.put _ (some 14) _ = _
    simp only [Act.put, zSa, zSb, zSc, i64_w, i32_w]
    rfl
  refine one_ (i := 10) (N := some 15) #[true, true, true, true, true, true, true, true, true, true, true, false, false] rfl rfl (one_of HT_.out (by kernel_rfl)) (by decide) (fun K hK => ?_)
  refine Kd.R_lit_step (Kd.int .i64) _ 3 ?hg (N := 15) ?hd (xs := ([t107, t108] : List Int)) (inner := [.int .i64 t107, .int .i64 t108]) (ok := fun _ => True) (okp := fun _ => True) ?hr ?hp (fun _ hk => hk) trivial (Below.refl _ _) (Nat.le_refl _) (by simp) ?_; (case hd => rfl); (case hg => rfl); (case hr => first | (go_simp; done) | (go_simp; rfl) | (go_simp; rw [show ∀ x : Int, IntKind.u32.wrap (IntKind.u8.wrap x) = x % 256 from fun x => (by show (x % 256) % 4294967296 = x % 256; omega)])); (case hp => exact (Reps.one (show Kd.M (Kd.int .i64) _ _ _ t107 [.int .i64 t107] from rfl) (Reps.one (show Kd.M (Kd.int .i64) _ _ _ t108 [.int .i64 t108] from rfl) (Reps.none _ _))))
  intro v110 w9 ho10 hb hg_ hnew_
  clear hg_ hnew_
  (first | rw [← Ny109.out] at ho10 | (simp only [Int.reduceToNat] at ho10; rw [← Ny109.out] at ho10))
  have HO111 := zMk (zRl ho10 (zBs (by exact uT HB.out)))
  replace BK105 := zMk (zKb (g := gb105) (o := .cells #[.int .i64 a0_0, .int .i64 a0_1, .int .i64 a0_2] 36 (0, 0)) (by (with_reducible repeat (first | refine zKn ?_ _ | refine zKd ?_ | refine zKa ?_ _)); exact BK105.out) hb)
  replace BK106 := zMk (zKb (g := gb106) (o := .cells #[.int .i64 a1_0, .int .i64 a1_1, .int .i64 a1_2] 36 (0, 0)) (by (with_reducible repeat (first | refine zKn ?_ _ | refine zKd ?_ | refine zKa ?_ _)); exact BK106.out) hb)
  replace HB := zMk (zBt (by exact uT HB.out) hb)
  clear hb ho10
  obtain ⟨Ao11, co11, eo11⟩ := zRs HO111.out
  (first |  subst eo11|  (injection eo11 with f1_ f2_ f3_; have f4_ := f1_.symm; have f5_ := f3_.symm; clear f1_ f2_ f3_; subst f4_; subst f5_))
  refine hK.out _ _ ⟨(zKc BK105.out 0).trans rfl, (zKc BK105.out 1).trans rfl, (zKc BK105.out 2).trans rfl, (zKc BK106.out 0).trans rfl, (zKc BK106.out 1).trans rfl, (zKc BK106.out 2).trans rfl⟩ (fun hHeld => ?_)
  clear hK K
  refine norm_ (a' := ?_) ?_ ?_
  rotate_left
  · show Act.put _ (some 15) _ = _
    simp only [Act.put, zSa, zSb, zSc, i64_w, i32_w]
    rfl
  refine one_ (i := 11) (N := some 16) #[true, true, true, true, true, true, true, true, true, true, true, true, false] rfl rfl (one_of HT_.out (by kernel_rfl)) (by decide) (fun K hK => ?_)
  refine goes_ Try.func48 (by kernel_rfl) rfl #[.slice Ao11 y109.length co11] (by rfl) rfl rfl (by (try simp only [zMa, zMc, zMn]); first | done | rfl | (simp only [zLd, zLt]; rfl)) ?_
  with_reducible refine (cmp_Or_int.calls k _ _ y109 t112 _ ?side1 ?side2 A5.out).mono ?_
  (case side1 => exact uC (zRr HO111.out).2.2)
  (case side2 => exact (zRr HO111.out).2.1)
  rintro e w' ⟨rfl, ⟨nd, rfl⟩⟩
  refine ⟨_, rfl, ?_⟩
  refine hK.out _ _ ⟨(zKc BK105.out 0).trans rfl, (zKc BK105.out 1).trans rfl, (zKc BK105.out 2).trans rfl, (zKc BK106.out 0).trans rfl, (zKc BK106.out 1).trans rfl, (zKc BK106.out 2).trans rfl⟩ (fun hHeld => ?_)
  clear hK K
  refine norm_ (a' := ?_) ?_ ?_
  rotate_left
  · show Act.put _ (some 16) _ = _
    simp only [Act.put, zSa, zSb, zSc, i64_w, i32_w]
    rfl
  refine pure_ (i := 12) (N := some 4) (v := ?_) (a' := ?_) #[true, true, true, true, true, true, true, true, true, true, true, true, true] rfl rfl (any_of HT_.out (by kernel_rfl)) (fun _ _ _ h => h) (Or.inl ⟨by rfl, ?_⟩) ?_ ?_
  rotate_left
  · intro w'
    go_simp
    with_reducible rfl
  rotate_left
  · simp only [Act.put, zSa, zSb, zSc, i64_w, i32_w]
    rfl
  refine done_ (done_of HT_.out (by kernel_rfl)) ?_
  try go_wp2
  go_ret
  exact ⟨by first | rfl | (simp [errW_none, errW_some] <;> rfl) | (simp [*, errW_none, errW_some] <;> rfl), by exact uT HB.out⟩
theorem box_cell {w : World} {g c e : Nat} {cs : Array Value} {v : Value} (hb : w.heap[g]? = some (.cells cs e (0, 0))) (hc : cs[c]? = some v) : w.cell? ⟨g, c, none⟩ = some v := by
  unfold World.cell?; rw [hb]; exact hc
theorem box_frozen {w : World} {g c e : Nat} {cs : Array Value} (hb : w.heap[g]? = some (.cells cs e (0, 0))) : w.frozen? ⟨g, c, none⟩ = false := by simp [World.frozen?, hb]
theorem blk_setCell_same {w : World} {g k : Nat} {v : Value} {cur : Array Value} {e : Nat} (hb : w.heap[g]? = some (.cells cur e (0, 0))) : (w.setCell ⟨g, k, none⟩ v).heap[g]? = some (.cells (cur.setIfInBounds k v) e (0, 0)) := by
  rw [Go.Sort.setCell_eq]
  simp [Go.Sort.mapBlock, Array.getElem?_modify, hb, Go.Sort.onCells]
def cmpI (a b : Int) : Int := if a < b then -1 else if a > b then 1 else 0
theorem cmp_exact (x y : Int) (w : World) : Calls Try.prog 49 #[.int .i64 x, .int .i64 y] w fun e w' => e = .returned (.int .i64 (cmpI x y)) ∧ w' = w := by
  by_cases h1 : x < y
  · have d1 : decide (x < y) = true := decide_eq_true h1
    have hc : cmpI x y = -1 := by unfold cmpI; rw [if_pos h1]
    rw [hc]
    go_enter Try.func49, Try.ntmps49
    go_wp2
    go_ret
    exact ⟨rfl, rfl⟩
  · have d1 : decide (x < y) = false := decide_eq_false h1
    by_cases h2 : x > y
    · have d2 : decide (y < x) = true := decide_eq_true h2
      have hc : cmpI x y = 1 := by unfold cmpI; rw [if_neg h1, if_pos h2]
      rw [hc]
      go_enter Try.func49, Try.ntmps49
      go_wp2
      go_ret
      exact ⟨rfl, rfl⟩
    · have d2 : decide (y < x) = false := decide_eq_false h2
      have hc : cmpI x y = 0 := by unfold cmpI; rw [if_neg h1, if_neg h2]
      rw [hc]
      go_enter Try.func49, Try.ntmps49
      go_wp2
      go_ret
      exact ⟨rfl, rfl⟩
def ordI (u v u' v' : Int) : Int := if cmpI u u' = 0 then cmpI v v' else cmpI u u'
theorem order_exact (a b c a' b' c' : Int) (W : World) : Calls Try.prog 34 #[.agg #[.int .i64 a, .int .i64 b, .int .i64 c], .agg #[.int .i64 a', .int .i64 b', .int .i64 c']] W fun e w' => e = .returned (.int .i64 (ordI a b a' b')) ∧ ∃ q os', w' = Sort.grow (W.drewN q) os' := by
  have k1 := fun W' => cmp_exact a a' W'
  have k2 := fun W' => cmp_exact b b' W'
  unfold ordI
  generalize cmpI a a' = p at k1 ⊢
  generalize cmpI b b' = q at k2 ⊢
  obtain ⟨r, hr⟩ : ∃ r, (if p = 0 then q else p) = r := ⟨_, rfl⟩
  rw [hr]
  have HR := zMk hr
  clear hr
  have huE := Try.underlying36
  go_enter Try.func34, Try.ntmps34
  go_wp2
  go_still_tail 10, (by kernel_rfl)
  generalize hW2 : ((W.alloc (.cells #[.int .i64 a, .int .i64 b, .int .i64 c] 36)).alloc (.cells #[.int .i64 a', .int .i64 b', .int .i64 c'] 36)) = W2
  have g1 : W2.heap[W.heap.size]? = some (.cells #[.int .i64 a, .int .i64 b, .int .i64 c] 36 (0, 0)) := by rw [← hW2]; simp [World.alloc, -World.alloc_eq, Array.getElem?_push]
  have g2 : W2.heap[W.heap.size + 1]? = some (.cells #[.int .i64 a', .int .i64 b', .int .i64 c'] 36 (0, 0)) := by
    rw [← hW2, ← World.size_alloc W (.cells #[.int .i64 a, .int .i64 b, .int .i64 c] 36)]
    generalize W.alloc (.cells #[.int .i64 a, .int .i64 b, .int .i64 c] 36) = W1
    simp [World.alloc, -World.alloc_eq]
  have f1 : W2.cell? ⟨W.heap.size, 0, none⟩ = some (.int .i64 a) := by simp [World.cell?, g1]
  have f2 : W2.cell? ⟨W.heap.size, 1, none⟩ = some (.int .i64 b) := by simp [World.cell?, g1]
  have f3 : W2.cell? ⟨W.heap.size + 1, 0, none⟩ = some (.int .i64 a') := by simp [World.cell?, g2]
  have f4 : W2.cell? ⟨W.heap.size + 1, 1, none⟩ = some (.int .i64 b') := by simp [World.cell?, g2]
  clear g1 g2
  show wpStill _ _ W2.drew _ _ _
  repeat still_step
  still_call (k1 W2.drew)
  repeat still_step
  still_call (k2 W2.drew)
  repeat still_step
  refine wpStill_nil ?_
  have hor : cmp_Or_int.f 5 [p, q] = some r := by
    rw [← HR.out]
    unfold cmp_Or_int.f
    simp only [cmp_Or_int.l0, zLc, zLn]
    by_cases hp : p = 0
    · subst hp
      by_cases hq : q = 0
      · subst hq; simp [rd, wrap64]
      · simp [rd, wrap64, hq]
    · simp [rd, hp]
  have hC : Kd.C (Kd.int .i64) (W2.alloc (.cells #[.int .i64 p, .int .i64 q] 3)).drew (some ⟨W2.heap.size, 0, none⟩) [p, q].length [p, q] := by
    have hb : ((W2.alloc (.cells #[.int .i64 p, .int .i64 q] 3)).drew).heap[W2.heap.size]? = some (.cells #[.int .i64 p, .int .i64 q] 3 (0, 0)) := by
      show (W2.heap.push _)[W2.heap.size]? = _
      simp
    have hcl : ∀ j, ((W2.alloc (.cells #[.int .i64 p, .int .i64 q] 3)).drew).cell? ⟨W2.heap.size, j, none⟩ = (#[Value.int .i64 p, .int .i64 q] : Array Value)[j]? := fun j => by unfold World.cell?; rw [hb]; rfl
    refine ⟨rfl, by simp, fun _ => ⟨_, rfl, fun j x hj => ?_⟩⟩
    have hsz : (Kd.int .i64).sz = 1 := rfl
    match j, hj with
    | 0, hj =>
      obtain rfl : p = x := by simpa using hj
      refine ⟨[.int .i64 p], rfl, rfl, fun i u hu => ?_⟩
      match i, hu with
      | 0, hu =>
        obtain rfl : Value.int .i64 p = u := by simpa using hu
        exact hcl 0
      | i + 1, hu => simp at hu
    | 1, hj =>
      obtain rfl : q = x := by simpa using hj
      refine ⟨[.int .i64 q], rfl, rfl, fun i u hu => ?_⟩
      match i, hu with
      | 0, hu =>
        obtain rfl : Value.int .i64 q = u := by simpa using hu
        exact hcl 1
      | i + 1, hu => simp at hu
    | j + 2, hj => simp at hj
  go_wp2_with (go_at_call 48; refine (cmp_Or_int.calls 5 _ 2 [p, q] _ _ hC (Nat.le_refl _) hor).mono ?_; rintro e w' ⟨rfl, nd, rfl⟩)
  go_ret
  refine ⟨rfl, nd + 1, #[.cells #[.int .i64 a, .int .i64 b, .int .i64 c] 36, .cells #[.int .i64 a', .int .i64 b', .int .i64 c'] 36, .cells #[.int .i64 p, .int .i64 q] 3], ?_⟩
  rw [← hW2]
  simp only [Sort.alloc_eq_grow, Sort.grow_grow]
  rw [Nat.add_comm 1 nd]
  rfl
section
open Go.Sort hiding Below
instance : Inhabited S36 := ⟨z36⟩
def encE (x : S36) : List Value := [.int .i64 x.f0, .int .i64 x.f1, .int .i64 x.f2]
def cfE (x y : S36) : Int := ordI x.f0 x.f1 y.f0 y.f1
theorem cmpLaysE (blk off size : Nat) (w : World) : CmpLays Try.prog 34 #[] encE 3 cfE blk off size w := fun _ _ _ _ x y => order_exact x.f0 x.f1 x.f2 y.f0 y.f1 y.f2 _
theorem ltE (x y : S36) : ltOf cfE x y = decide (x.f0 < y.f0 ∨ x.f0 = y.f0 ∧ x.f1 < y.f1) := by
  unfold ltOf cfE ordI cmpI
  congr 1
  apply propext
  constructor
  · intro h
    repeat' split at h
    all_goals omega
  · intro h
    repeat' split
    all_goals omega
theorem swoE : SWO (ltOf cfE) where
  irrefl x := by rw [ltE]; simp
  trans x y z h1 h2 := by rw [ltE] at *; simp only [decide_eq_true_eq] at *; omega
  ntrans x y z h1 h2 := by rw [ltE] at *; simp only [decide_eq_false_iff_not] at *; omega
theorem cells_row (l : List S36) (inner : List Value) {R : S36 → List Value → Prop} (hR : ∀ x c, R x c → c = encE x) (h : Reps R 3 l inner) (t : Nat) (ht : t < l.length * 3) : inner[t]? = some ((flatK encE 3 l.toArray)[t]!) := by
  rw [get_flatK _ _ _ t (by simpa using ht)]
  have hj : t / 3 < l.length := by omega
  have h2 := hR _ _ (h.2 (t / 3) l[t / 3] (by simp [hj]))
  have h3 : ((inner.drop (t / 3 * 3)).take 3)[t % 3]? = inner[t]? := by
    rw [List.getElem?_take_of_lt (by omega), List.getElem?_drop]
    congr 1
    omega
  rw [← h3, h2]
  have h4 : l.toArray[t / 3]! = l[t / 3] := by simp [hj]
  rw [h4]
  have h5 : t % 3 < (encE l[t / 3]).length := by show t % 3 < 3; omega
  rw [List.getElem?_eq_getElem h5, getElem!_pos (encE l[t / 3]) (t % 3) h5]
theorem flat_reps {R : S36 → List Value → Prop} (hR : ∀ x, R x (encE x)) (l : List S36) : Reps R 3 l (flatK encE 3 l.toArray).toList := by
  refine ⟨by simp, fun j p hj => ?_⟩
  have hl : j < l.length := by
    rcases Nat.lt_or_ge j l.length with h | h
    · exact h
    · rw [List.getElem?_eq_none h] at hj; cases hj
  have e : l[j] = p := by rw [List.getElem?_eq_getElem hl] at hj; exact zOi hj
  have : ((flatK encE 3 l.toArray).toList.drop (j * 3)).take 3 = encE p := by
    apply List.ext_getElem?
    intro i
    by_cases hi : i < 3
    · rw [List.getElem?_take_of_lt hi, List.getElem?_drop]
      have hb : j * 3 + i < (flatK encE 3 l.toArray).size := by simp; omega
      rw [Array.getElem?_toList, Array.getElem?_eq_getElem hb, ← getElem!_pos (flatK encE 3 l.toArray) (j * 3 + i) hb, get_flatK _ _ _ _ (by simp; omega)]
      have h4 : l.toArray[(j * 3 + i) / 3]! = p := by
        have : (j * 3 + i) / 3 = j := by omega
        rw [this]; simp [hl, e]
      have h6 : (j * 3 + i) % 3 = i := by omega
      rw [h4, h6]
      have h5 : i < (encE p).length := hi
      rw [List.getElem?_eq_getElem h5, getElem!_pos (encE p) i h5]
    · rw [List.getElem?_take_eq_none (by omega), List.getElem?_eq_none (by show (encE p).length ≤ i; show 3 ≤ i; omega)]
  rw [this]
  exact hR p
theorem held_row {w : World} {g : Nat} {cur : Array Value} {l : List S36} {inner : List Value} {R : S36 → List Value → Prop} (hR : ∀ x c, R x c → c = encE x) (hr : Reps R 3 l inner) (hb : w.heap[g]? = some (.cells cur 36 (0, 0))) (ht : cur.toList.take (l.length * 3) = inner) : HoldsK encE 3 w g 0 l.toArray := by
  intro j hj
  have hj' : j < l.length * 3 := by simpa using hj
  refine ⟨?_, by simp [World.frozen?, hb]⟩
  have h1 := cells_row l inner hR hr j hj'
  rw [← ht, List.getElem?_take_of_lt hj'] at h1
  simp only [World.cell?, hb, Nat.zero_add]
  simp only [Option.isSome_none, Bool.false_eq_true, if_false]
  rw [← Array.getElem?_toList, h1]
  rfl
theorem sorted_row {w : World} {base g cap n : Nat} {os : Array Obj} {cur : Array Value} {ok : Nat → Prop} {l r : List S36} (hl : r.length = l.length) (hok : ok g) (hbase : base ≤ g) (hb : w.heap[g]? = some (.cells cur 36 (0, 0)))
    (h1 : l.length ≤ cap) (h2 : cap ≤ maxLen) (h3 : cur.size = cap * 3) :
    Kd.R k36 36 (sortWorldK encE 3 w g 0 n r.toArray os) base ok (.slice (some ⟨g, 0, none⟩) l.length cap) r := by
  have hg : g < w.heap.size := (Array.getElem?_eq_some_iff.1 hb).1
  have hb' : (sortWorldK encE 3 w g 0 n r.toArray os).heap[g]? = some (.cells (putCells id 0 (flatK encE 3 r.toArray) cur) 36 (0, 0)) := by
    unfold sortWorldK putRowK
    rw [heap_grow_old _ _ (by simpa using hg)]
    simp [putRow, mapBlock, Sort.ahead, Array.getElem?_modify, hb, onCells]
  refine ⟨fun k hk => ?_, (flatK encE 3 r.toArray).toList, ⟨by simp; rfl, .inr ⟨g, cap, _, by rw [hl], hbase, hb', by omega, h2, by simp [putCells, h3]; rfl, ?_⟩⟩, flat_reps (fun x => k36_mkM _ _ _ x) r⟩
  · have : g = k := by simpa [Value.ownBlock] using hk
    exact this ▸ hok
  · apply List.ext_getElem?
    intro j
    have e3 : k36.sz = 3 := rfl
    rw [e3]
    by_cases hj : j < r.length * 3
    · have hc : j < cur.size := by rw [h3]; omega
      rw [List.getElem?_take_of_lt hj, Array.getElem?_toList]
      have hb2 : j < (flatK encE 3 r.toArray).size := by simpa using hj
      rw [Array.getElem?_toList, Array.getElem?_eq_getElem hb2, ← getElem!_pos (flatK encE 3 r.toArray) j hb2]
      simp [putCells, hj, hc]
    · rw [List.getElem?_take_eq_none (by omega), List.getElem?_eq_none (by simp; omega)]
theorem grown_sortK {w : World} {g n : Nat} {os : Array Obj} (d : Array S36) : w.grownBy (sortWorldK encE 3 w g 0 n d os) (some g) := by
  refine ⟨rfl, rfl, rfl, by simp [sortWorldK, putRowK], fun k hk hne => ?_⟩
  unfold sortWorldK putRowK
  rw [heap_grow_old _ _ (by simpa using hk)]
  have : g ≠ k := fun e => hne (by rw [e])
  simp [putRow, mapBlock, Sort.ahead, Array.getElem?_modify, this]
end
theorem goesT_ {P : Program} {ops : Array Oper} {Q : Exit → Act → World → Prop} {oi : Oper} {N : Option Tmp} {a : Act} {w : World} {K : Act → World → Prop} {f : FuncId} {fn : Func} {t : Tmp} {aa : Array Operand} {ts : Array TypeId} (hf : P.funcs[f]? = some fn) (hname : (fn.name == "runtime.NumGoroutine") = false) (hb : fn.body.isSome = true) (args : Array Value)
    (hw : Region.wanted oi (yielded ops a.tmps) = true) (hN : oi.dst = N) (hop : oi.op = .call { callee := .value (.tmp t), args := aa, argTypes := ts }) (ht : a.eval (.tmp t) = .func (.func f) #[] #[]) (hargs : aa.map a.eval = args)
    (h : Calls P f args w fun e w' => ∃ v, e = .returned v ∧ K (a.put N v) w') : if Region.wanted oi (yielded ops a.tmps) = true then Oper.wp P oi a w K Q else K (a.put N undef) w := by
  refine call_ f args hw hN ?_ h
  have he := enters_ hf hname hb args w
  unfold execOp
  simp [hop, resolve, Deferred.ofValue, invoke, ht, hargs, he]
theorem below_growN {b : Nat} {w W : World} (q : Nat) (os : Array Obj) (h : Below b w W) (hb : b ≤ W.heap.size) : Below b w (Sort.grow (W.drewN q) os) :=
  h.grown (row := none) ⟨rfl, rfl, rfl, by simp [World.drewN], fun k hk _ => by rw [Sort.heap_grow_old (W.drewN q) os (show k < (W.drewN q).heap.size from hk)]; rfl⟩ hb (fun k hk => by cases hk)
theorem blk_growN {W : World} {g : Nat} {o : Obj} (q : Nat) (os : Array Obj) (h : W.heap[g]? = some o) : (Sort.grow (W.drewN q) os).heap[g]? = some o := by
  rw [Sort.heap_grow_old (W.drewN q) os (show g < (W.drewN q).heap.size from (Array.getElem?_eq_some_iff.1 h).1)]
  exact h


def graph_Right.l0 : Nat → List (S36) → Int → Int → Int → List (S36) → Option (Int)
  | 0, _, _, _, _, _ => none
  | k + 1, x17, x18, x19, x114000, x114001 => if x19 < x18 then (if 0 ≤ x19 then (if x19 < (x17.length : Int) then ((graph_alone.f k x114000 ((rd_T36 x17 x19).f0) ((rd_T36 x17 x19).f1) ((rd_T36 x17 x19).f2)).bind fun t117 => (if t117 = 0 then (if ((rd_T36 x17 x19).f0) > ((rd_T36 x17 x19).f1) then (some 1) else (if x19 = 0 then (graph_Right.l0 k x17 x18 (wrap64 (x19 + 1)) x114000 x114001) else (if 0 ≤ (wrap64 (x19 - 1)) then (if (wrap64 (x19 - 1)) < (x114001.length : Int) then ((graph_order.f k ((rd_T36 x114001 (wrap64 (x19 - 1))).f0) ((rd_T36 x114001 (wrap64 (x19 - 1))).f1) ((rd_T36 x114001 (wrap64 (x19 - 1))).f2) ((rd_T36 x17 x19).f0) ((rd_T36 x17 x19).f1) ((rd_T36 x17 x19).f2)).bind fun t119 => (if t119 = 0 then (some 7) else (if t119 = 1 then (some 1) else (graph_Right.l0 k x17 x18 (wrap64 (x19 + 1)) x114000 x114001)))) else (none)) else (none)))) else (some t117))) else (none)) else (none)) else (some 0)
def graph_Right.f (k : Nat) (a0_0 : Int) (l0_1 : List (S36)) : Option (Int) := (graph_sizes.f a0_0 (l0_1.length : Int)).bind fun t114 => (if t114 = 0 then (graph_Right.l0 k l0_1 (l0_1.length : Int) 0 a0_0 l0_1) else (some t114))
def graph_Right.T13 : Bool × List (List Nat × List Nat) := (true, [([], []), ([0], [0]), ([], []), ([2], [2]), ([1, 3], [1, 3]), ([4], [4]), ([], []), ([5, 6], [5, 6])])
def graph_Right.B13 : List Nat := [0, 1, 0, 4, 15, 31, 0, 127]
theorem graph_Right.tab13 : rtab .any (opsOf Try.f11 13) = graph_Right.T13 := by kernel_rfl
theorem graph_Right.bits13 : waitsOk graph_Right.T13.2 graph_Right.B13 = true := by kernel_rfl
theorem graph_Right.calls (k : Nat) (a0_0 : Int) (A0_1 : Option Addr) (c0_1 : Nat) (l0_1 : List (S36)) (r : Int) (w : World) (hr0_1 : Kd.C k36 w A0_1 l0_1.length l0_1) (hc0_1 : l0_1.length ≤ c0_1) (h : graph_Right.f k a0_0 l0_1 = some r) :
    Calls Try.prog 11 #[.agg #[.int .i64 a0_0, .slice A0_1 l0_1.length c0_1]] w fun e w' => e = .returned (.int .i64 r) ∧ Below w.heap.size w w' := by
  have hu24 := Try.underlying24
  have hu36 := Try.underlying36
  have HR0_1 := zMk hr0_1
  have HC0_1 := zMk hc0_1
  clear hr0_1 hc0_1
  have HB := zMk (Below.refl w.heap.size w)
  have H : ((graph_sizes.f a0_0 (l0_1.length : Int)).bind fun t114 => (if t114 = 0 then (graph_Right.l0 k l0_1 (l0_1.length : Int) 0 a0_0 l0_1) else (some t114))) = some r := h
  clear h
  replace H := bnd H
  obtain ⟨t114, A20, H⟩ := H
  have A2 := zMk A20
  clear A20
  by_cases c3 : t114 = 0
  · rw [if_pos c3] at H
    have c3b0 : (t114 == 0) = true := beq_iff_eq.mpr c3
    have c3b1 : (t114 != 0) = false := bne_eq_false_iff_eq.mpr c3
    clear c3
    have H' := zMk H
    clear H
    go_enter Try.func11, Try.ntmps11
    go_wp2_with (first | ((with_reducible refine gate_dst (N := 1) rfl ?_); refine box_event ?hg (N := 1) ?hd (cs := #[.int .i64 a0_0, .slice A0_1 l0_1.length c0_1]) (t := 24) ?hr ?_; (case hd => rfl); (case hg => rfl); (case hr => first | (go_simp; done)|(go_simp; rfl)|(go_simp; rw [show ∀ x : Int, IntKind.u32.wrap (IntKind.u8.wrap x) = x % 256 from fun x => (by show (x % 256) % 4294967296 = x % 256; omega)])); intro gb113 hg w4 hbox hb; have BK113 := zMk (hbox); have GW113 := zMk ((by rw [hg]; exact (zBs (by exact uT HB.out)) : w.heap.size ≤ gb113)); have GE113 := zMk ((by rw [hg]; exact (zBs (by exact uT HB.out)) : w.heap.size ≤ gb113)); have IGE113 := ownGe GE113.out; replace HB := zMk (zBt (by exact uT HB.out) hb); clear hb hbox hg; have hcz5_0 : w4.cell? ⟨gb113, 0, none⟩ = some (.int .i64 a0_0) := (zKc BK113.out 0).trans rfl; have hcz5_1 : w4.cell? ⟨gb113, 1, none⟩ = some (.slice A0_1 l0_1.length c0_1) := (zKc BK113.out 1).trans rfl; have hfz5_0 := zKf BK113.out 0; have hfz5_1 := zKf BK113.out 1)|((with_reducible refine gate_callee (f := 32) rfl ?_); refine goesL_ (some 12) rfl rfl Try.func32 (by kernel_rfl) rfl #[.int .i64 a0_0, .int .i64 (l0_1.length : Int)] rfl (by (try simp only [zMa, zMc, zMn]); first |  done|  rfl|  (simp only [zLd, zLt]; rfl)) ?_; (with_reducible refine (graph_sizes.calls a0_0 (l0_1.length : Int) t114 _ A2.out).mono ?_); rintro e w' ⟨rfl, ⟨nd, rfl⟩⟩; refine ⟨_, rfl, ?_⟩))
    go_loopg [19] k (fun kq v19 w' => ∃ (x19_1 : Int), v19 = .int .i64 x19_1 ∧ Aside0 (graph_Right.l0 kq l0_1 (l0_1.length : Int) x19_1 a0_0 l0_1 = some r) ∧ Aside0 (kq ≤ k) ∧ Aside0 (w'.heap[gb113]? = some (.cells #[.int .i64 a0_0, (.slice A0_1 l0_1.length c0_1)] 24 (0, 0))) ∧ Aside0 (Below w.heap.size w w'))
    case atStart => exact ⟨(0), (by first | rfl | (simp; done) | (simp [*]; done)), H', ⟨Nat.le_refl _⟩, ⟨by (with_reducible repeat (first | refine zKn ?_ _ | refine zKd ?_ | refine zKa ?_ _)); exact BK113.out⟩, ⟨by exact uT HB.out⟩⟩
    clear H'
    obtain ⟨x19_1, rfl, HA, HK1, BK113, HB⟩ := hrel
    rcases gk with _ | k1
    · exact absurd HA.out (by simp [graph_Right.l0])
    have H := HA.out
    clear HA
    simp only [graph_Right.l0] at H
    by_cases c6 : x19_1 < (l0_1.length : Int)
    · rw [if_pos c6] at H
      have c6b0 : decide (x19_1 < (l0_1.length : Int)) = true := decide_eq_true c6
      clear c6
      by_cases c7 : 0 ≤ x19_1
      rotate_left
      · rw [if_neg c7] at H; exact absurd H (by simp)
      rw [if_pos c7] at H
      have c7b0 : decide (0 ≤ x19_1) = true := decide_eq_true c7
      clear c7
      by_cases c8 : x19_1 < (l0_1.length : Int)
      rotate_left
      · rw [if_neg c8] at H; exact absurd H (by simp)
      rw [if_pos c8] at H
      have c8b0 : decide (x19_1 < (l0_1.length : Int)) = true := decide_eq_true c8
      clear c8
      replace H := bnd H
      obtain ⟨t117, A90, H⟩ := H
      have A9 := zMk A90
      clear A90
      by_cases c10 : t117 = 0
      · rw [if_pos c10] at H
        have c10b0 : (t117 == 0) = true := beq_iff_eq.mpr c10
        have c10b1 : (t117 != 0) = false := bne_eq_false_iff_eq.mpr c10
        clear c10
        by_cases c11 : ((rd_T36 l0_1 x19_1).f0) > ((rd_T36 l0_1 x19_1).f1)
        · rw [if_pos c11] at H
          have c11b0 : decide (((rd_T36 l0_1 x19_1).f1) < ((rd_T36 l0_1 x19_1).f0)) = true := decide_eq_true c11
          clear c11
          obtain rfl := zOi H
          have p115 : 0 ≤ (x19_1 : Int) := of_decide_eq_true (by assumption)
          have q115 : x19_1 < (l0_1.length : Int) := of_decide_eq_true (by assumption)
          obtain ⟨ad115, e115, hx115_0, hx115_1, hx115_2⟩ := at_T36 HR0_1.out x19_1 p115 q115
          cases e115
          replace hx115_0 := (HB.out.cell (World.block_lt_of_cell? w _ hx115_0)).trans hx115_0
          replace hx115_1 := (HB.out.cell (World.block_lt_of_cell? w _ hx115_1)).trans hx115_1
          replace hx115_2 := (HB.out.cell (World.block_lt_of_cell? w _ hx115_2)).trans hx115_2
          replace p115 := eq_true p115
          replace q115 := eq_true q115
          go_wp2_with (first | ((with_reducible refine gate_dst (N := 5) rfl ?_); refine box_event ?hg (N := 5) ?hd (cs := #[.int .i64 0, .int .i64 0, .int .i64 0]) (t := 36) ?hr ?_; (case hd => rfl); (case hg => rfl); (case hr => first | (go_simp; done)|(go_simp; rfl)|(go_simp; rw [show ∀ x : Int, IntKind.u32.wrap (IntKind.u8.wrap x) = x % 256 from fun x => (by show (x % 256) % 4294967296 = x % 256; omega)])); intro gb116 hg w12 hbox hb; have BK116 := zMk (hbox); have GW116 := zMk ((by rw [hg]; exact (zBs (by exact uT HB.out)) : w.heap.size ≤ gb116)); have GE116 := zMk ((by rw [hg]; exact (zBs (by exact uT HB.out)) : w.heap.size ≤ gb116)); have IGE116 := ownGe GE116.out; replace HB := zMk (zBt (by exact uT HB.out) hb); have NB113_116 := zMk ((by rw [hg]; exact Nat.ne_of_lt (blk_lt (g := gb113) (o := .cells #[.int .i64 a0_0, .slice (some ad115) l0_1.length c0_1] 24 (0, 0)) (by (with_reducible repeat (first |  refine zKn ?_ _|  refine zKd ?_|  refine zKa ?_ _)); exact BK113.out)) : gb113 ≠ gb116)); have NB116_113 := zMk ((by rw [hg]; exact Nat.ne_of_gt (blk_lt (g := gb113) (o := .cells #[.int .i64 a0_0, .slice (some ad115) l0_1.length c0_1] 24 (0, 0)) (by (with_reducible repeat (first |  refine zKn ?_ _|  refine zKd ?_|  refine zKa ?_ _)); exact BK113.out)) : gb116 ≠ gb113)); replace BK113 := zMk (zKb (g := gb113) (o := .cells #[.int .i64 a0_0, .slice (some ad115) l0_1.length c0_1] 24 (0, 0)) (by (with_reducible repeat (first |  refine zKn ?_ _|  refine zKd ?_|  refine zKa ?_ _)); exact BK113.out) hb); clear hb hbox hg; have hnb13 := NB116_113.out; have hnc13 := NB113_116.out; have hcz14_0 : w12.cell? ⟨gb116, 0, none⟩ = some (.int .i64 0) := (zKc BK116.out 0).trans rfl; have hcz14_1 : w12.cell? ⟨gb116, 1, none⟩ = some (.int .i64 0) := (zKc BK116.out 1).trans rfl; have hcz14_2 : w12.cell? ⟨gb116, 2, none⟩ = some (.int .i64 0) := (zKc BK116.out 2).trans rfl; have hfz14_0 := zKf BK116.out 0; have hfz14_1 := zKf BK116.out 1; have hfz14_2 := zKf BK116.out 2; have hcz15_0 : w12.cell? ⟨gb113, 0, none⟩ = some (.int .i64 a0_0) := (zKc BK113.out 0).trans rfl; have hcz15_1 : w12.cell? ⟨gb113, 1, none⟩ = some (.slice (some ad115) l0_1.length c0_1) := (zKc BK113.out 1).trans rfl; have hfz15_0 := zKf BK113.out 0; have hfz15_1 := zKf BK113.out 1)|((with_reducible refine gate_callee (f := 33) rfl ?_); refine goesL_ (some 27) rfl rfl Try.func33 (by kernel_rfl) rfl #[.int .i64 a0_0, .agg #[.int .i64 ((rd_T36 l0_1 x19_1).f0), .int .i64 ((rd_T36 l0_1 x19_1).f1), .int .i64 ((rd_T36 l0_1 x19_1).f2)]] rfl (by (try simp only [zMa, zMc, zMn]); first |  done|  rfl|  (simp only [zLd, zLt]; rfl)) ?_; (with_reducible refine (graph_alone.calls k1 a0_0 ((rd_T36 l0_1 x19_1).f0) ((rd_T36 l0_1 x19_1).f1) ((rd_T36 l0_1 x19_1).f2) t117 _ A9.out).mono ?_); rintro e w16 ⟨rfl, hb⟩; refine ⟨_, rfl, ?_⟩; replace BK113 := zMk (zKb (g := gb113) (o := .cells #[.int .i64 a0_0, .slice (some ad115) l0_1.length c0_1] 24 (0, 0)) (by (with_reducible repeat (first |  refine zKn ?_ _|  refine zKd ?_|  refine zKa ?_ _)); refine blk_far ?_ NB113_116.out _; (with_reducible repeat (first |  refine zKn ?_ _|  refine zKd ?_|  refine zKa ?_ _)); refine blk_far ?_ NB113_116.out _; (with_reducible repeat (first |  refine zKn ?_ _|  refine zKd ?_|  refine zKa ?_ _)); refine blk_far ?_ NB113_116.out _; (with_reducible repeat (first |  refine zKn ?_ _|  refine zKd ?_|  refine zKa ?_ _)); exact BK113.out) hb); replace BK116 := zMk (zKb (g := gb116) (o := .cells #[.int .i64 ((rd_T36 l0_1 x19_1).f0), .int .i64 ((rd_T36 l0_1 x19_1).f1), .int .i64 ((rd_T36 l0_1 x19_1).f2)] 36 (0, 0)) (by (with_reducible repeat (first |  refine zKn ?_ _|  refine zKd ?_|  refine zKa ?_ _)); refine blk_put (cs := #[.int .i64 ((rd_T36 l0_1 x19_1).f0), .int .i64 ((rd_T36 l0_1 x19_1).f1), .int .i64 0]) ?_ 2 _ rfl; (with_reducible repeat (first |  refine zKn ?_ _|  refine zKd ?_|  refine zKa ?_ _)); refine blk_put (cs := #[.int .i64 ((rd_T36 l0_1 x19_1).f0), .int .i64 0, .int .i64 0]) ?_ 1 _ rfl; (with_reducible repeat (first |  refine zKn ?_ _|  refine zKd ?_|  refine zKa ?_ _)); refine blk_put (cs := #[.int .i64 0, .int .i64 0, .int .i64 0]) ?_ 0 _ rfl; (with_reducible repeat (first |  refine zKn ?_ _|  refine zKd ?_|  refine zKa ?_ _)); exact BK116.out) hb); replace HB := zMk (zBt (by exact uT HB.out) hb); have hcz17_0 : w16.cell? ⟨gb116, 0, none⟩ = some (.int .i64 ((rd_T36 l0_1 x19_1).f0)) := (zKc BK116.out 0).trans rfl; have hcz17_1 : w16.cell? ⟨gb116, 1, none⟩ = some (.int .i64 ((rd_T36 l0_1 x19_1).f1)) := (zKc BK116.out 1).trans rfl; have hcz17_2 : w16.cell? ⟨gb116, 2, none⟩ = some (.int .i64 ((rd_T36 l0_1 x19_1).f2)) := (zKc BK116.out 2).trans rfl; have hfz17_0 := zKf BK116.out 0; have hfz17_1 := zKf BK116.out 1; have hfz17_2 := zKf BK116.out 2))
          go_ret
          exact ⟨by first | rfl | (simp [errW_none, errW_some] <;> rfl) | (simp [*, errW_none, errW_some] <;> rfl), by exact uT HB.out⟩
        · rw [if_neg c11] at H
          have c11b0 : decide (((rd_T36 l0_1 x19_1).f1) < ((rd_T36 l0_1 x19_1).f0)) = false := decide_eq_false c11
          clear c11
          by_cases c18 : x19_1 = 0
          · rw [if_pos c18] at H
            have c18b0 : (x19_1 == 0) = true := beq_iff_eq.mpr c18
            have c18b1 : (x19_1 != 0) = false := bne_eq_false_iff_eq.mpr c18
            clear c18
            have H' := zMk H
            clear H
            have p115 : 0 ≤ (x19_1 : Int) := of_decide_eq_true (by assumption)
            have q115 : x19_1 < (l0_1.length : Int) := of_decide_eq_true (by assumption)
            obtain ⟨ad115, e115, hx115_0, hx115_1, hx115_2⟩ := at_T36 HR0_1.out x19_1 p115 q115
            cases e115
            replace hx115_0 := (HB.out.cell (World.block_lt_of_cell? w _ hx115_0)).trans hx115_0
            replace hx115_1 := (HB.out.cell (World.block_lt_of_cell? w _ hx115_1)).trans hx115_1
            replace hx115_2 := (HB.out.cell (World.block_lt_of_cell? w _ hx115_2)).trans hx115_2
            replace p115 := eq_true p115
            replace q115 := eq_true q115
            go_wp2_with (first | ((with_reducible refine gate_dst (N := 5) rfl ?_); refine box_event ?hg (N := 5) ?hd (cs := #[.int .i64 0, .int .i64 0, .int .i64 0]) (t := 36) ?hr ?_; (case hd => rfl); (case hg => rfl); (case hr => first | (go_simp; done)|(go_simp; rfl)|(go_simp; rw [show ∀ x : Int, IntKind.u32.wrap (IntKind.u8.wrap x) = x % 256 from fun x => (by show (x % 256) % 4294967296 = x % 256; omega)])); intro gb116 hg w19 hbox hb; have BK116 := zMk (hbox); have GW116 := zMk ((by rw [hg]; exact (zBs (by exact uT HB.out)) : w.heap.size ≤ gb116)); have GE116 := zMk ((by rw [hg]; exact (zBs (by exact uT HB.out)) : w.heap.size ≤ gb116)); have IGE116 := ownGe GE116.out; replace HB := zMk (zBt (by exact uT HB.out) hb); have NB113_116 := zMk ((by rw [hg]; exact Nat.ne_of_lt (blk_lt (g := gb113) (o := .cells #[.int .i64 a0_0, .slice (some ad115) l0_1.length c0_1] 24 (0, 0)) (by (with_reducible repeat (first |  refine zKn ?_ _|  refine zKd ?_|  refine zKa ?_ _)); exact BK113.out)) : gb113 ≠ gb116)); have NB116_113 := zMk ((by rw [hg]; exact Nat.ne_of_gt (blk_lt (g := gb113) (o := .cells #[.int .i64 a0_0, .slice (some ad115) l0_1.length c0_1] 24 (0, 0)) (by (with_reducible repeat (first |  refine zKn ?_ _|  refine zKd ?_|  refine zKa ?_ _)); exact BK113.out)) : gb116 ≠ gb113)); replace BK113 := zMk (zKb (g := gb113) (o := .cells #[.int .i64 a0_0, .slice (some ad115) l0_1.length c0_1] 24 (0, 0)) (by (with_reducible repeat (first |  refine zKn ?_ _|  refine zKd ?_|  refine zKa ?_ _)); exact BK113.out) hb); clear hb hbox hg; have hnb20 := NB116_113.out; have hnc20 := NB113_116.out; have hcz21_0 : w19.cell? ⟨gb116, 0, none⟩ = some (.int .i64 0) := (zKc BK116.out 0).trans rfl; have hcz21_1 : w19.cell? ⟨gb116, 1, none⟩ = some (.int .i64 0) := (zKc BK116.out 1).trans rfl; have hcz21_2 : w19.cell? ⟨gb116, 2, none⟩ = some (.int .i64 0) := (zKc BK116.out 2).trans rfl; have hfz21_0 := zKf BK116.out 0; have hfz21_1 := zKf BK116.out 1; have hfz21_2 := zKf BK116.out 2; have hcz22_0 : w19.cell? ⟨gb113, 0, none⟩ = some (.int .i64 a0_0) := (zKc BK113.out 0).trans rfl; have hcz22_1 : w19.cell? ⟨gb113, 1, none⟩ = some (.slice (some ad115) l0_1.length c0_1) := (zKc BK113.out 1).trans rfl; have hfz22_0 := zKf BK113.out 0; have hfz22_1 := zKf BK113.out 1)|((with_reducible refine gate_callee (f := 33) rfl ?_); refine goesL_ (some 27) rfl rfl Try.func33 (by kernel_rfl) rfl #[.int .i64 a0_0, .agg #[.int .i64 ((rd_T36 l0_1 x19_1).f0), .int .i64 ((rd_T36 l0_1 x19_1).f1), .int .i64 ((rd_T36 l0_1 x19_1).f2)]] rfl (by (try simp only [zMa, zMc, zMn]); first |  done|  rfl|  (simp only [zLd, zLt]; rfl)) ?_; (with_reducible refine (graph_alone.calls k1 a0_0 ((rd_T36 l0_1 x19_1).f0) ((rd_T36 l0_1 x19_1).f1) ((rd_T36 l0_1 x19_1).f2) t117 _ A9.out).mono ?_); rintro e w23 ⟨rfl, hb⟩; refine ⟨_, rfl, ?_⟩; replace BK113 := zMk (zKb (g := gb113) (o := .cells #[.int .i64 a0_0, .slice (some ad115) l0_1.length c0_1] 24 (0, 0)) (by (with_reducible repeat (first |  refine zKn ?_ _|  refine zKd ?_|  refine zKa ?_ _)); refine blk_far ?_ NB113_116.out _; (with_reducible repeat (first |  refine zKn ?_ _|  refine zKd ?_|  refine zKa ?_ _)); refine blk_far ?_ NB113_116.out _; (with_reducible repeat (first |  refine zKn ?_ _|  refine zKd ?_|  refine zKa ?_ _)); refine blk_far ?_ NB113_116.out _; (with_reducible repeat (first |  refine zKn ?_ _|  refine zKd ?_|  refine zKa ?_ _)); exact BK113.out) hb); replace BK116 := zMk (zKb (g := gb116) (o := .cells #[.int .i64 ((rd_T36 l0_1 x19_1).f0), .int .i64 ((rd_T36 l0_1 x19_1).f1), .int .i64 ((rd_T36 l0_1 x19_1).f2)] 36 (0, 0)) (by (with_reducible repeat (first |  refine zKn ?_ _|  refine zKd ?_|  refine zKa ?_ _)); refine blk_put (cs := #[.int .i64 ((rd_T36 l0_1 x19_1).f0), .int .i64 ((rd_T36 l0_1 x19_1).f1), .int .i64 0]) ?_ 2 _ rfl; (with_reducible repeat (first |  refine zKn ?_ _|  refine zKd ?_|  refine zKa ?_ _)); refine blk_put (cs := #[.int .i64 ((rd_T36 l0_1 x19_1).f0), .int .i64 0, .int .i64 0]) ?_ 1 _ rfl; (with_reducible repeat (first |  refine zKn ?_ _|  refine zKd ?_|  refine zKa ?_ _)); refine blk_put (cs := #[.int .i64 0, .int .i64 0, .int .i64 0]) ?_ 0 _ rfl; (with_reducible repeat (first |  refine zKn ?_ _|  refine zKd ?_|  refine zKa ?_ _)); exact BK116.out) hb); replace HB := zMk (zBt (by exact uT HB.out) hb); have hcz24_0 : w23.cell? ⟨gb116, 0, none⟩ = some (.int .i64 ((rd_T36 l0_1 x19_1).f0)) := (zKc BK116.out 0).trans rfl; have hcz24_1 : w23.cell? ⟨gb116, 1, none⟩ = some (.int .i64 ((rd_T36 l0_1 x19_1).f1)) := (zKc BK116.out 1).trans rfl; have hcz24_2 : w23.cell? ⟨gb116, 2, none⟩ = some (.int .i64 ((rd_T36 l0_1 x19_1).f2)) := (zKc BK116.out 2).trans rfl; have hfz24_0 := zKf BK116.out 0; have hfz24_1 := zKf BK116.out 1; have hfz24_2 := zKf BK116.out 2))
            go_roundg k1
            case measure => have := HK1.out; omega
            case rel => exact ⟨(wrap64 (x19_1 + 1)), (by first | rfl | (simp; done) | (simp [*]; done)), H', ⟨by have := HK1.out; omega⟩, ⟨by (with_reducible repeat (first | refine zKn ?_ _ | refine zKd ?_ | refine zKa ?_ _)); exact BK113.out⟩, ⟨by exact uT HB.out⟩⟩
          · rw [if_neg c18] at H
            have c18b0 : (x19_1 == 0) = false := beq_eq_false_iff_ne.mpr c18
            have c18b1 : (x19_1 != 0) = true := bne_iff_ne.mpr c18
            obtain ⟨ji25, hji25⟩ : ∃ j_ : Int, (wrap64 (x19_1 - 1)) = j_ := ⟨_, rfl⟩
            replace H : (if 0 ≤ (ji25) then (if (ji25) < (l0_1.length : Int) then ((graph_order.f k1 ((rd_T36 l0_1 (ji25)).f0) ((rd_T36 l0_1 (ji25)).f1) ((rd_T36 l0_1 (ji25)).f2) ((rd_T36 l0_1 x19_1).f0) ((rd_T36 l0_1 x19_1).f1) ((rd_T36 l0_1 x19_1).f2)).bind fun t119 => (if t119 = 0 then (some 7) else (if t119 = 1 then (some 1) else (graph_Right.l0 k1 l0_1 (l0_1.length : Int) (wrap64 (x19_1 + 1)) a0_0 l0_1)))) else (none)) else (none)) = some r := by first | (rw [hji25] at H; exact H) | (simp only [hji25] at H ⊢; exact H)
            (try rw [hji25] at A9)
            have hji25w : (IntKind.i64.wrap (x19_1 - 1)) = ji25 := (i64_w _).trans hji25
            by_cases c26 : 0 ≤ (ji25)
            rotate_left
            · rw [if_neg c26] at H; exact absurd H (by simp)
            rw [if_pos c26] at H
            have c26b0 : decide (0 ≤ (ji25)) = true := decide_eq_true c26
            clear c26
            by_cases c27 : (ji25) < (l0_1.length : Int)
            rotate_left
            · rw [if_neg c27] at H; exact absurd H (by simp)
            rw [if_pos c27] at H
            have c27b0 : decide ((ji25) < (l0_1.length : Int)) = true := decide_eq_true c27
            clear c27
            replace H := bnd H
            obtain ⟨t119, A280, H⟩ := H
            have A28 := zMk A280
            clear A280
            by_cases c29 : t119 = 0
            · rw [if_pos c29] at H
              have c29b0 : (t119 == 0) = true := beq_iff_eq.mpr c29
              have c29b1 : (t119 != 0) = false := bne_eq_false_iff_eq.mpr c29
              clear c29
              obtain rfl := zOi H
              have p115 : 0 ≤ (x19_1 : Int) := of_decide_eq_true (by assumption)
              have q115 : x19_1 < (l0_1.length : Int) := of_decide_eq_true (by assumption)
              obtain ⟨ad115, e115, hx115_0, hx115_1, hx115_2⟩ := at_T36 HR0_1.out x19_1 p115 q115
              cases e115
              replace hx115_0 := (HB.out.cell (World.block_lt_of_cell? w _ hx115_0)).trans hx115_0
              replace hx115_1 := (HB.out.cell (World.block_lt_of_cell? w _ hx115_1)).trans hx115_1
              replace hx115_2 := (HB.out.cell (World.block_lt_of_cell? w _ hx115_2)).trans hx115_2
              replace p115 := eq_true p115
              replace q115 := eq_true q115
              try go_wp2_with (first | ((with_reducible refine gate_dst (N := 5) rfl ?_); refine box_event ?hg (N := 5) ?hd (cs := #[.int .i64 0, .int .i64 0, .int .i64 0]) (t := 36) ?hr ?_; (case hd => rfl); (case hg => rfl); (case hr => first | (go_simp; done)|(go_simp; rfl)|(go_simp; rw [show ∀ x : Int, IntKind.u32.wrap (IntKind.u8.wrap x) = x % 256 from fun x => (by show (x % 256) % 4294967296 = x % 256; omega)])); intro gb116 hg w30 hbox hb; have BK116 := zMk (hbox); have GW116 := zMk ((by rw [hg]; exact (zBs (by exact uT HB.out)) : w.heap.size ≤ gb116)); have GE116 := zMk ((by rw [hg]; exact (zBs (by exact uT HB.out)) : w.heap.size ≤ gb116)); have IGE116 := ownGe GE116.out; replace HB := zMk (zBt (by exact uT HB.out) hb); have NB113_116 := zMk ((by rw [hg]; exact Nat.ne_of_lt (blk_lt (g := gb113) (o := .cells #[.int .i64 a0_0, .slice (some ad115) l0_1.length c0_1] 24 (0, 0)) (by (with_reducible repeat (first |  refine zKn ?_ _|  refine zKd ?_|  refine zKa ?_ _)); exact BK113.out)) : gb113 ≠ gb116)); have NB116_113 := zMk ((by rw [hg]; exact Nat.ne_of_gt (blk_lt (g := gb113) (o := .cells #[.int .i64 a0_0, .slice (some ad115) l0_1.length c0_1] 24 (0, 0)) (by (with_reducible repeat (first |  refine zKn ?_ _|  refine zKd ?_|  refine zKa ?_ _)); exact BK113.out)) : gb116 ≠ gb113)); replace BK113 := zMk (zKb (g := gb113) (o := .cells #[.int .i64 a0_0, .slice (some ad115) l0_1.length c0_1] 24 (0, 0)) (by (with_reducible repeat (first |  refine zKn ?_ _|  refine zKd ?_|  refine zKa ?_ _)); exact BK113.out) hb); clear hb hbox hg; have hnb31 := NB116_113.out; have hnc31 := NB113_116.out; have hcz32_0 : w30.cell? ⟨gb116, 0, none⟩ = some (.int .i64 0) := (zKc BK116.out 0).trans rfl; have hcz32_1 : w30.cell? ⟨gb116, 1, none⟩ = some (.int .i64 0) := (zKc BK116.out 1).trans rfl; have hcz32_2 : w30.cell? ⟨gb116, 2, none⟩ = some (.int .i64 0) := (zKc BK116.out 2).trans rfl; have hfz32_0 := zKf BK116.out 0; have hfz32_1 := zKf BK116.out 1; have hfz32_2 := zKf BK116.out 2; have hcz33_0 : w30.cell? ⟨gb113, 0, none⟩ = some (.int .i64 a0_0) := (zKc BK113.out 0).trans rfl; have hcz33_1 : w30.cell? ⟨gb113, 1, none⟩ = some (.slice (some ad115) l0_1.length c0_1) := (zKc BK113.out 1).trans rfl; have hfz33_0 := zKf BK113.out 0; have hfz33_1 := zKf BK113.out 1)|((with_reducible refine gate_callee (f := 33) rfl ?_); refine goesL_ (some 27) rfl rfl Try.func33 (by kernel_rfl) rfl #[.int .i64 a0_0, .agg #[.int .i64 ((rd_T36 l0_1 x19_1).f0), .int .i64 ((rd_T36 l0_1 x19_1).f1), .int .i64 ((rd_T36 l0_1 x19_1).f2)]] rfl (by (try simp only [zMa, zMc, zMn]); first |  done|  rfl|  (simp only [zLd, zLt]; rfl)) ?_; (with_reducible refine (graph_alone.calls k1 a0_0 ((rd_T36 l0_1 x19_1).f0) ((rd_T36 l0_1 x19_1).f1) ((rd_T36 l0_1 x19_1).f2) t117 _ A9.out).mono ?_); rintro e w34 ⟨rfl, hb⟩; refine ⟨_, rfl, ?_⟩; replace BK113 := zMk (zKb (g := gb113) (o := .cells #[.int .i64 a0_0, .slice (some ad115) l0_1.length c0_1] 24 (0, 0)) (by (with_reducible repeat (first |  refine zKn ?_ _|  refine zKd ?_|  refine zKa ?_ _)); refine blk_far ?_ NB113_116.out _; (with_reducible repeat (first |  refine zKn ?_ _|  refine zKd ?_|  refine zKa ?_ _)); refine blk_far ?_ NB113_116.out _; (with_reducible repeat (first |  refine zKn ?_ _|  refine zKd ?_|  refine zKa ?_ _)); refine blk_far ?_ NB113_116.out _; (with_reducible repeat (first |  refine zKn ?_ _|  refine zKd ?_|  refine zKa ?_ _)); exact BK113.out) hb); replace BK116 := zMk (zKb (g := gb116) (o := .cells #[.int .i64 ((rd_T36 l0_1 x19_1).f0), .int .i64 ((rd_T36 l0_1 x19_1).f1), .int .i64 ((rd_T36 l0_1 x19_1).f2)] 36 (0, 0)) (by (with_reducible repeat (first |  refine zKn ?_ _|  refine zKd ?_|  refine zKa ?_ _)); refine blk_put (cs := #[.int .i64 ((rd_T36 l0_1 x19_1).f0), .int .i64 ((rd_T36 l0_1 x19_1).f1), .int .i64 0]) ?_ 2 _ rfl; (with_reducible repeat (first |  refine zKn ?_ _|  refine zKd ?_|  refine zKa ?_ _)); refine blk_put (cs := #[.int .i64 ((rd_T36 l0_1 x19_1).f0), .int .i64 0, .int .i64 0]) ?_ 1 _ rfl; (with_reducible repeat (first |  refine zKn ?_ _|  refine zKd ?_|  refine zKa ?_ _)); refine blk_put (cs := #[.int .i64 0, .int .i64 0, .int .i64 0]) ?_ 0 _ rfl; (with_reducible repeat (first |  refine zKn ?_ _|  refine zKd ?_|  refine zKa ?_ _)); exact BK116.out) hb); replace HB := zMk (zBt (by exact uT HB.out) hb); have hcz35_0 : w34.cell? ⟨gb116, 0, none⟩ = some (.int .i64 ((rd_T36 l0_1 x19_1).f0)) := (zKc BK116.out 0).trans rfl; have hcz35_1 : w34.cell? ⟨gb116, 1, none⟩ = some (.int .i64 ((rd_T36 l0_1 x19_1).f1)) := (zKc BK116.out 1).trans rfl; have hcz35_2 : w34.cell? ⟨gb116, 2, none⟩ = some (.int .i64 ((rd_T36 l0_1 x19_1).f2)) := (zKc BK116.out 2).trans rfl; have hfz35_0 := zKf BK116.out 0; have hfz35_1 := zKf BK116.out 1; have hfz35_2 := zKf BK116.out 2))
              replace BK113 := zMk (zKd BK113.out)
              replace BK116 := zMk (zKd BK116.out)
              replace HB := zMk (zBd HB.out)
              have p118 : 0 ≤ ((ji25) : Int) := of_decide_eq_true (by assumption)
              have q118 : (ji25) < (l0_1.length : Int) := of_decide_eq_true (by assumption)
              obtain ⟨ad118, e118, hx118_0, hx118_1, hx118_2⟩ := at_T36 HR0_1.out (ji25) p118 q118
              have hw118_2 := hx118_2
              have hw118_1 := hx118_1
              have hw118_0 := hx118_0
              obtain rfl : ad115 = ad118 := (by injection e118)
              replace hx118_0 := (HB.out.cell (World.block_lt_of_cell? w _ hx118_0)).trans hx118_0
              replace hx118_1 := (HB.out.cell (World.block_lt_of_cell? w _ hx118_1)).trans hx118_1
              replace hx118_2 := (HB.out.cell (World.block_lt_of_cell? w _ hx118_2)).trans hx118_2
              replace p118 := eq_true p118
              replace q118 := eq_true q118
              refine start_ (n := 8) (S := fun w' => w'.cell? ⟨gb113, 0, none⟩ = some (.int .i64 a0_0) ∧ w'.cell? ⟨gb113, 1, none⟩ = some (.slice (some ad115) l0_1.length c0_1) ∧ w'.cell? ⟨gb116, 0, none⟩ = some (.int .i64 ((rd_T36 l0_1 x19_1).f0)) ∧ w'.cell? ⟨gb116, 1, none⟩ = some (.int .i64 ((rd_T36 l0_1 x19_1).f1)) ∧ w'.cell? ⟨gb116, 2, none⟩ = some (.int .i64 ((rd_T36 l0_1 x19_1).f2)) ∧ w'.cell? (ad115.add (((ji25)).toNat * 3)) = some (.int .i64 ((rd_T36 l0_1 (ji25)).f0)) ∧ w'.cell? ⟨(ad115.add (((ji25)).toNat * 3)).block, (ad115.add (((ji25)).toNat * 3)).off + 1, none⟩ = some (.int .i64 ((rd_T36 l0_1 (ji25)).f1)) ∧ w'.cell? ⟨(ad115.add (((ji25)).toNat * 3)).block, (ad115.add (((ji25)).toNat * 3)).off + 2, none⟩ = some (.int .i64 ((rd_T36 l0_1 (ji25)).f2))) (ds := []) #[false, false, false, false, false, false, false, false] (by kernel_rfl) rfl rfl ⟨(zKc BK113.out 0).trans rfl, (zKc BK113.out 1).trans rfl, (zKc BK116.out 0).trans rfl, (zKc BK116.out 1).trans rfl, (zKc BK116.out 2).trans rfl, ((HB.out.cell (World.block_lt_of_cell? w _ hw118_0)).trans hw118_0), ((HB.out.cell (World.block_lt_of_cell? w _ hw118_1)).trans hw118_1), ((HB.out.cell (World.block_lt_of_cell? w _ hw118_2)).trans hw118_2)⟩ (fun hHeld => ?_); refine with_tabW graph_Right.tab13 graph_Right.bits13 (fun HT_ HW_ => ?_)
              generalize w34.drew = w36 at BK113 BK116 HB hx118_0 hx118_1 hx118_2 hHeld ⊢
              refine pure_ (i := 0) (N := some 41) (v := ?_) (a' := ?_) #[true, false, false, false, false, false, false, false] rfl rfl (any_of HT_.out (by kernel_rfl)) (fun _ _ _ h => h) (Or.inl ⟨by rfl, ?_⟩) ?_ ?_
              rotate_left
              · intro w'
                go_simp
                with_reducible rfl
              rotate_left
              · simp only [Act.put, zSa, zSb, zSc, i64_w, i32_w]
                rfl
              refine pure_ (i := 2) (N := some 43) (v := ?_) (a' := ?_) #[true, false, true, false, false, false, false, false] rfl rfl (any_of HT_.out (by kernel_rfl)) (fun _ _ _ h => h) (Or.inl ⟨by rfl, ?_⟩) ?_ ?_
              rotate_left
              · intro w'
                go_simp
                with_reducible rfl
              rotate_left
              · simp only [Act.put, zSa, zSb, zSc, i64_w, i32_w]
                rfl
              refine pure_ (i := 3) (N := some 44) (v := ?_) (a' := ?_) #[true, false, true, true, false, false, false, false] rfl rfl (any_of HT_.out (by kernel_rfl)) (fun _ _ _ h => h) (Or.inl ⟨by rfl, ?_⟩) ?_ ?_
              rotate_left
              · intro w'
                go_simp
                with_reducible rfl
              rotate_left
              · simp only [Act.put, zSa, zSb, zSc, i64_w, i32_w]
                rfl
              refine take_ (i := 1) (N := some 42) (v := ?_) (a' := ?_) #[true, true, true, true, false, false, false, false] rfl rfl (take_ofW HT_.out HW_.out (by kernel_rfl)) (fun _ _ _ h => h) (Or.inl ⟨by rfl, ?_⟩) hHeld ?_ ?_
              rotate_left
              · rintro w' ⟨s0, s1, s2, s3, s4, s5, s6, s7⟩
                go_simp
                with_reducible rfl
              rotate_left
              · simp only [Act.put, zSa, zSb, zSc, i64_w, i32_w]
                rfl
              refine pure_ (i := 4) (N := some 45) (v := ?_) (a' := ?_) #[true, true, true, true, true, false, false, false] rfl rfl (any_of HT_.out (by kernel_rfl)) (fun _ _ _ h => h) (Or.inl ⟨by rfl, ?_⟩) ?_ ?_
              rotate_left
              · intro w'
                go_simp
                with_reducible rfl
              rotate_left
              · simp only [Act.put, zSa, zSb, zSc, i64_w, i32_w]
                rfl
              refine take_ (i := 5) (N := some 46) (v := ?_) (a' := ?_) #[true, true, true, true, true, true, false, false] rfl rfl (take_ofW HT_.out HW_.out (by kernel_rfl)) (fun _ _ _ h => h) (Or.inl ⟨by rfl, ?_⟩) hHeld ?_ ?_
              rotate_left
              · rintro w' ⟨s0, s1, s2, s3, s4, s5, s6, s7⟩
                go_simp
                with_reducible rfl
              rotate_left
              · simp only [Act.put, zSa, zSb, zSc, i64_w, i32_w]
                rfl
              refine take_ (i := 6) (N := some 47) (v := ?_) (a' := ?_) #[true, true, true, true, true, true, true, false] rfl rfl (take_ofW HT_.out HW_.out (by kernel_rfl)) (fun _ _ _ h => h) (Or.inl ⟨by rfl, ?_⟩) hHeld ?_ ?_
              rotate_left
              · rintro w' ⟨s0, s1, s2, s3, s4, s5, s6, s7⟩
                go_simp
                with_reducible rfl
              rotate_left
              · simp only [Act.put, zSa, zSb, zSc, i64_w, i32_w]
                rfl
              refine one_ (i := 7) (N := some 48) #[true, true, true, true, true, true, true, true] rfl rfl (one_of HT_.out (by kernel_rfl)) (by decide) (fun K hK => ?_)
              refine goes_ Try.func34 (by kernel_rfl) rfl #[.agg #[.int .i64 ((rd_T36 l0_1 (ji25)).f0), .int .i64 ((rd_T36 l0_1 (ji25)).f1), .int .i64 ((rd_T36 l0_1 (ji25)).f2)], .agg #[.int .i64 ((rd_T36 l0_1 x19_1).f0), .int .i64 ((rd_T36 l0_1 x19_1).f1), .int .i64 ((rd_T36 l0_1 x19_1).f2)]] (by rfl) rfl rfl (by (try simp only [zMa, zMc, zMn]); first | done | (simp only [hji25]; rfl) | rfl | (simp only [zLd, zLt]; rfl)) ?_
              with_reducible refine (graph_order.calls k1 ((rd_T36 l0_1 (ji25)).f0) ((rd_T36 l0_1 (ji25)).f1) ((rd_T36 l0_1 (ji25)).f2) ((rd_T36 l0_1 x19_1).f0) ((rd_T36 l0_1 x19_1).f1) ((rd_T36 l0_1 x19_1).f2) t119 _ A28.out).mono ?_
              rintro e w37 ⟨rfl, hb⟩
              refine ⟨_, rfl, ?_⟩
              replace BK113 := zMk (zKb (g := gb113) (o := .cells #[.int .i64 a0_0, .slice (some ad115) l0_1.length c0_1] 24 (0, 0)) (by (with_reducible repeat (first | refine zKn ?_ _ | refine zKd ?_ | refine zKa ?_ _)); exact BK113.out) hb)
              replace BK116 := zMk (zKb (g := gb116) (o := .cells #[.int .i64 ((rd_T36 l0_1 x19_1).f0), .int .i64 ((rd_T36 l0_1 x19_1).f1), .int .i64 ((rd_T36 l0_1 x19_1).f2)] 36 (0, 0)) (by (with_reducible repeat (first | refine zKn ?_ _ | refine zKd ?_ | refine zKa ?_ _)); exact BK116.out) hb)
              replace HB := zMk (zBt (by exact uT HB.out) hb)
              refine hK.out _ _ ⟨(zKc BK113.out 0).trans rfl, (zKc BK113.out 1).trans rfl, (zKc BK116.out 0).trans rfl, (zKc BK116.out 1).trans rfl, (zKc BK116.out 2).trans rfl, ((HB.out.cell (World.block_lt_of_cell? w _ hw118_0)).trans hw118_0), ((HB.out.cell (World.block_lt_of_cell? w _ hw118_1)).trans hw118_1), ((HB.out.cell (World.block_lt_of_cell? w _ hw118_2)).trans hw118_2)⟩ (fun hHeld => ?_)
              clear hK K
              refine norm_ (a' := ?_) ?_ ?_
              rotate_left
              · show Act.put _ (some 48) _ = _
                simp only [Act.put, zSa, zSb, zSc, i64_w, i32_w]
                rfl
              refine done_ (done_of HT_.out (by kernel_rfl)) ?_
              try go_wp2
              go_ret
              exact ⟨by first | rfl | (simp [errW_none, errW_some] <;> rfl) | (simp only [← hji25]; first | rfl | (simp [errW_none, errW_some] <;> rfl)) | (simp [*, errW_none, errW_some] <;> rfl), by exact uT HB.out⟩
            · rw [if_neg c29] at H
              have c29b0 : (t119 == 0) = false := beq_eq_false_iff_ne.mpr c29
              have c29b1 : (t119 != 0) = true := bne_iff_ne.mpr c29
              by_cases c38 : t119 = 1
              · rw [if_pos c38] at H
                have c38b0 : (t119 == 1) = true := beq_iff_eq.mpr c38
                have c38b1 : (t119 != 1) = false := bne_eq_false_iff_eq.mpr c38
                clear c38
                obtain rfl := zOi H
                have p115 : 0 ≤ (x19_1 : Int) := of_decide_eq_true (by assumption)
                have q115 : x19_1 < (l0_1.length : Int) := of_decide_eq_true (by assumption)
                obtain ⟨ad115, e115, hx115_0, hx115_1, hx115_2⟩ := at_T36 HR0_1.out x19_1 p115 q115
                cases e115
                replace hx115_0 := (HB.out.cell (World.block_lt_of_cell? w _ hx115_0)).trans hx115_0
                replace hx115_1 := (HB.out.cell (World.block_lt_of_cell? w _ hx115_1)).trans hx115_1
                replace hx115_2 := (HB.out.cell (World.block_lt_of_cell? w _ hx115_2)).trans hx115_2
                replace p115 := eq_true p115
                replace q115 := eq_true q115
                try go_wp2_with (first | ((with_reducible refine gate_dst (N := 5) rfl ?_); refine box_event ?hg (N := 5) ?hd (cs := #[.int .i64 0, .int .i64 0, .int .i64 0]) (t := 36) ?hr ?_; (case hd => rfl); (case hg => rfl); (case hr => first | (go_simp; done)|(go_simp; rfl)|(go_simp; rw [show ∀ x : Int, IntKind.u32.wrap (IntKind.u8.wrap x) = x % 256 from fun x => (by show (x % 256) % 4294967296 = x % 256; omega)])); intro gb116 hg w39 hbox hb; have BK116 := zMk (hbox); have GW116 := zMk ((by rw [hg]; exact (zBs (by exact uT HB.out)) : w.heap.size ≤ gb116)); have GE116 := zMk ((by rw [hg]; exact (zBs (by exact uT HB.out)) : w.heap.size ≤ gb116)); have IGE116 := ownGe GE116.out; replace HB := zMk (zBt (by exact uT HB.out) hb); have NB113_116 := zMk ((by rw [hg]; exact Nat.ne_of_lt (blk_lt (g := gb113) (o := .cells #[.int .i64 a0_0, .slice (some ad115) l0_1.length c0_1] 24 (0, 0)) (by (with_reducible repeat (first |  refine zKn ?_ _|  refine zKd ?_|  refine zKa ?_ _)); exact BK113.out)) : gb113 ≠ gb116)); have NB116_113 := zMk ((by rw [hg]; exact Nat.ne_of_gt (blk_lt (g := gb113) (o := .cells #[.int .i64 a0_0, .slice (some ad115) l0_1.length c0_1] 24 (0, 0)) (by (with_reducible repeat (first |  refine zKn ?_ _|  refine zKd ?_|  refine zKa ?_ _)); exact BK113.out)) : gb116 ≠ gb113)); replace BK113 := zMk (zKb (g := gb113) (o := .cells #[.int .i64 a0_0, .slice (some ad115) l0_1.length c0_1] 24 (0, 0)) (by (with_reducible repeat (first |  refine zKn ?_ _|  refine zKd ?_|  refine zKa ?_ _)); exact BK113.out) hb); clear hb hbox hg; have hnb40 := NB116_113.out; have hnc40 := NB113_116.out; have hcz41_0 : w39.cell? ⟨gb116, 0, none⟩ = some (.int .i64 0) := (zKc BK116.out 0).trans rfl; have hcz41_1 : w39.cell? ⟨gb116, 1, none⟩ = some (.int .i64 0) := (zKc BK116.out 1).trans rfl; have hcz41_2 : w39.cell? ⟨gb116, 2, none⟩ = some (.int .i64 0) := (zKc BK116.out 2).trans rfl; have hfz41_0 := zKf BK116.out 0; have hfz41_1 := zKf BK116.out 1; have hfz41_2 := zKf BK116.out 2; have hcz42_0 : w39.cell? ⟨gb113, 0, none⟩ = some (.int .i64 a0_0) := (zKc BK113.out 0).trans rfl; have hcz42_1 : w39.cell? ⟨gb113, 1, none⟩ = some (.slice (some ad115) l0_1.length c0_1) := (zKc BK113.out 1).trans rfl; have hfz42_0 := zKf BK113.out 0; have hfz42_1 := zKf BK113.out 1)|((with_reducible refine gate_callee (f := 33) rfl ?_); refine goesL_ (some 27) rfl rfl Try.func33 (by kernel_rfl) rfl #[.int .i64 a0_0, .agg #[.int .i64 ((rd_T36 l0_1 x19_1).f0), .int .i64 ((rd_T36 l0_1 x19_1).f1), .int .i64 ((rd_T36 l0_1 x19_1).f2)]] rfl (by (try simp only [zMa, zMc, zMn]); first |  done|  rfl|  (simp only [zLd, zLt]; rfl)) ?_; (with_reducible refine (graph_alone.calls k1 a0_0 ((rd_T36 l0_1 x19_1).f0) ((rd_T36 l0_1 x19_1).f1) ((rd_T36 l0_1 x19_1).f2) t117 _ A9.out).mono ?_); rintro e w43 ⟨rfl, hb⟩; refine ⟨_, rfl, ?_⟩; replace BK113 := zMk (zKb (g := gb113) (o := .cells #[.int .i64 a0_0, .slice (some ad115) l0_1.length c0_1] 24 (0, 0)) (by (with_reducible repeat (first |  refine zKn ?_ _|  refine zKd ?_|  refine zKa ?_ _)); refine blk_far ?_ NB113_116.out _; (with_reducible repeat (first |  refine zKn ?_ _|  refine zKd ?_|  refine zKa ?_ _)); refine blk_far ?_ NB113_116.out _; (with_reducible repeat (first |  refine zKn ?_ _|  refine zKd ?_|  refine zKa ?_ _)); refine blk_far ?_ NB113_116.out _; (with_reducible repeat (first |  refine zKn ?_ _|  refine zKd ?_|  refine zKa ?_ _)); exact BK113.out) hb); replace BK116 := zMk (zKb (g := gb116) (o := .cells #[.int .i64 ((rd_T36 l0_1 x19_1).f0), .int .i64 ((rd_T36 l0_1 x19_1).f1), .int .i64 ((rd_T36 l0_1 x19_1).f2)] 36 (0, 0)) (by (with_reducible repeat (first |  refine zKn ?_ _|  refine zKd ?_|  refine zKa ?_ _)); refine blk_put (cs := #[.int .i64 ((rd_T36 l0_1 x19_1).f0), .int .i64 ((rd_T36 l0_1 x19_1).f1), .int .i64 0]) ?_ 2 _ rfl; (with_reducible repeat (first |  refine zKn ?_ _|  refine zKd ?_|  refine zKa ?_ _)); refine blk_put (cs := #[.int .i64 ((rd_T36 l0_1 x19_1).f0), .int .i64 0, .int .i64 0]) ?_ 1 _ rfl; (with_reducible repeat (first |  refine zKn ?_ _|  refine zKd ?_|  refine zKa ?_ _)); refine blk_put (cs := #[.int .i64 0, .int .i64 0, .int .i64 0]) ?_ 0 _ rfl; (with_reducible repeat (first |  refine zKn ?_ _|  refine zKd ?_|  refine zKa ?_ _)); exact BK116.out) hb); replace HB := zMk (zBt (by exact uT HB.out) hb); have hcz44_0 : w43.cell? ⟨gb116, 0, none⟩ = some (.int .i64 ((rd_T36 l0_1 x19_1).f0)) := (zKc BK116.out 0).trans rfl; have hcz44_1 : w43.cell? ⟨gb116, 1, none⟩ = some (.int .i64 ((rd_T36 l0_1 x19_1).f1)) := (zKc BK116.out 1).trans rfl; have hcz44_2 : w43.cell? ⟨gb116, 2, none⟩ = some (.int .i64 ((rd_T36 l0_1 x19_1).f2)) := (zKc BK116.out 2).trans rfl; have hfz44_0 := zKf BK116.out 0; have hfz44_1 := zKf BK116.out 1; have hfz44_2 := zKf BK116.out 2))
                replace BK113 := zMk (zKd BK113.out)
                replace BK116 := zMk (zKd BK116.out)
                replace HB := zMk (zBd HB.out)
                have p118 : 0 ≤ ((ji25) : Int) := of_decide_eq_true (by assumption)
                have q118 : (ji25) < (l0_1.length : Int) := of_decide_eq_true (by assumption)
                obtain ⟨ad118, e118, hx118_0, hx118_1, hx118_2⟩ := at_T36 HR0_1.out (ji25) p118 q118
                have hw118_2 := hx118_2
                have hw118_1 := hx118_1
                have hw118_0 := hx118_0
                obtain rfl : ad115 = ad118 := (by injection e118)
                replace hx118_0 := (HB.out.cell (World.block_lt_of_cell? w _ hx118_0)).trans hx118_0
                replace hx118_1 := (HB.out.cell (World.block_lt_of_cell? w _ hx118_1)).trans hx118_1
                replace hx118_2 := (HB.out.cell (World.block_lt_of_cell? w _ hx118_2)).trans hx118_2
                replace p118 := eq_true p118
                replace q118 := eq_true q118
                refine start_ (n := 8) (S := fun w' => w'.cell? ⟨gb113, 0, none⟩ = some (.int .i64 a0_0) ∧ w'.cell? ⟨gb113, 1, none⟩ = some (.slice (some ad115) l0_1.length c0_1) ∧ w'.cell? ⟨gb116, 0, none⟩ = some (.int .i64 ((rd_T36 l0_1 x19_1).f0)) ∧ w'.cell? ⟨gb116, 1, none⟩ = some (.int .i64 ((rd_T36 l0_1 x19_1).f1)) ∧ w'.cell? ⟨gb116, 2, none⟩ = some (.int .i64 ((rd_T36 l0_1 x19_1).f2)) ∧ w'.cell? (ad115.add (((ji25)).toNat * 3)) = some (.int .i64 ((rd_T36 l0_1 (ji25)).f0)) ∧ w'.cell? ⟨(ad115.add (((ji25)).toNat * 3)).block, (ad115.add (((ji25)).toNat * 3)).off + 1, none⟩ = some (.int .i64 ((rd_T36 l0_1 (ji25)).f1)) ∧ w'.cell? ⟨(ad115.add (((ji25)).toNat * 3)).block, (ad115.add (((ji25)).toNat * 3)).off + 2, none⟩ = some (.int .i64 ((rd_T36 l0_1 (ji25)).f2))) (ds := []) #[false, false, false, false, false, false, false, false] (by kernel_rfl) rfl rfl ⟨(zKc BK113.out 0).trans rfl, (zKc BK113.out 1).trans rfl, (zKc BK116.out 0).trans rfl, (zKc BK116.out 1).trans rfl, (zKc BK116.out 2).trans rfl, ((HB.out.cell (World.block_lt_of_cell? w _ hw118_0)).trans hw118_0), ((HB.out.cell (World.block_lt_of_cell? w _ hw118_1)).trans hw118_1), ((HB.out.cell (World.block_lt_of_cell? w _ hw118_2)).trans hw118_2)⟩ (fun hHeld => ?_); refine with_tabW graph_Right.tab13 graph_Right.bits13 (fun HT_ HW_ => ?_)
                generalize w43.drew = w45 at BK113 BK116 HB hx118_0 hx118_1 hx118_2 hHeld ⊢
                refine pure_ (i := 0) (N := some 41) (v := ?_) (a' := ?_) #[true, false, false, false, false, false, false, false] rfl rfl (any_of HT_.out (by kernel_rfl)) (fun _ _ _ h => h) (Or.inl ⟨by rfl, ?_⟩) ?_ ?_
                rotate_left
                · intro w'
                  go_simp
                  with_reducible rfl
                rotate_left
                · simp only [Act.put, zSa, zSb, zSc, i64_w, i32_w]
                  rfl
                refine pure_ (i := 2) (N := some 43) (v := ?_) (a' := ?_) #[true, false, true, false, false, false, false, false] rfl rfl (any_of HT_.out (by kernel_rfl)) (fun _ _ _ h => h) (Or.inl ⟨by rfl, ?_⟩) ?_ ?_
                rotate_left
                · intro w'
                  go_simp
                  with_reducible rfl
                rotate_left
                · simp only [Act.put, zSa, zSb, zSc, i64_w, i32_w]
                  rfl
                refine pure_ (i := 3) (N := some 44) (v := ?_) (a' := ?_) #[true, false, true, true, false, false, false, false] rfl rfl (any_of HT_.out (by kernel_rfl)) (fun _ _ _ h => h) (Or.inl ⟨by rfl, ?_⟩) ?_ ?_
                rotate_left
                · intro w'
                  go_simp
                  with_reducible rfl
                rotate_left
                · simp only [Act.put, zSa, zSb, zSc, i64_w, i32_w]
                  rfl
                refine take_ (i := 1) (N := some 42) (v := ?_) (a' := ?_) #[true, true, true, true, false, false, false, false] rfl rfl (take_ofW HT_.out HW_.out (by kernel_rfl)) (fun _ _ _ h => h) (Or.inl ⟨by rfl, ?_⟩) hHeld ?_ ?_
                rotate_left
                · rintro w' ⟨s0, s1, s2, s3, s4, s5, s6, s7⟩
                  go_simp
                  with_reducible rfl
                rotate_left
                · simp only [Act.put, zSa, zSb, zSc, i64_w, i32_w]
                  rfl
                refine pure_ (i := 4) (N := some 45) (v := ?_) (a' := ?_) #[true, true, true, true, true, false, false, false] rfl rfl (any_of HT_.out (by kernel_rfl)) (fun _ _ _ h => h) (Or.inl ⟨by rfl, ?_⟩) ?_ ?_
                rotate_left
                · intro w'
                  go_simp
                  with_reducible rfl
                rotate_left
                · simp only [Act.put, zSa, zSb, zSc, i64_w, i32_w]
                  rfl
                refine take_ (i := 5) (N := some 46) (v := ?_) (a' := ?_) #[true, true, true, true, true, true, false, false] rfl rfl (take_ofW HT_.out HW_.out (by kernel_rfl)) (fun _ _ _ h => h) (Or.inl ⟨by rfl, ?_⟩) hHeld ?_ ?_
                rotate_left
                · rintro w' ⟨s0, s1, s2, s3, s4, s5, s6, s7⟩
                  go_simp
                  with_reducible rfl
                rotate_left
                · simp only [Act.put, zSa, zSb, zSc, i64_w, i32_w]
                  rfl
                refine take_ (i := 6) (N := some 47) (v := ?_) (a' := ?_) #[true, true, true, true, true, true, true, false] rfl rfl (take_ofW HT_.out HW_.out (by kernel_rfl)) (fun _ _ _ h => h) (Or.inl ⟨by rfl, ?_⟩) hHeld ?_ ?_
                rotate_left
                · rintro w' ⟨s0, s1, s2, s3, s4, s5, s6, s7⟩
                  go_simp
                  with_reducible rfl
                rotate_left
                · simp only [Act.put, zSa, zSb, zSc, i64_w, i32_w]
                  rfl
                refine one_ (i := 7) (N := some 48) #[true, true, true, true, true, true, true, true] rfl rfl (one_of HT_.out (by kernel_rfl)) (by decide) (fun K hK => ?_)
                refine goes_ Try.func34 (by kernel_rfl) rfl #[.agg #[.int .i64 ((rd_T36 l0_1 (ji25)).f0), .int .i64 ((rd_T36 l0_1 (ji25)).f1), .int .i64 ((rd_T36 l0_1 (ji25)).f2)], .agg #[.int .i64 ((rd_T36 l0_1 x19_1).f0), .int .i64 ((rd_T36 l0_1 x19_1).f1), .int .i64 ((rd_T36 l0_1 x19_1).f2)]] (by rfl) rfl rfl (by (try simp only [zMa, zMc, zMn]); first | done | (simp only [hji25]; rfl) | rfl | (simp only [zLd, zLt]; rfl)) ?_
                with_reducible refine (graph_order.calls k1 ((rd_T36 l0_1 (ji25)).f0) ((rd_T36 l0_1 (ji25)).f1) ((rd_T36 l0_1 (ji25)).f2) ((rd_T36 l0_1 x19_1).f0) ((rd_T36 l0_1 x19_1).f1) ((rd_T36 l0_1 x19_1).f2) t119 _ A28.out).mono ?_
                rintro e w46 ⟨rfl, hb⟩
                refine ⟨_, rfl, ?_⟩
                replace BK113 := zMk (zKb (g := gb113) (o := .cells #[.int .i64 a0_0, .slice (some ad115) l0_1.length c0_1] 24 (0, 0)) (by (with_reducible repeat (first | refine zKn ?_ _ | refine zKd ?_ | refine zKa ?_ _)); exact BK113.out) hb)
                replace BK116 := zMk (zKb (g := gb116) (o := .cells #[.int .i64 ((rd_T36 l0_1 x19_1).f0), .int .i64 ((rd_T36 l0_1 x19_1).f1), .int .i64 ((rd_T36 l0_1 x19_1).f2)] 36 (0, 0)) (by (with_reducible repeat (first | refine zKn ?_ _ | refine zKd ?_ | refine zKa ?_ _)); exact BK116.out) hb)
                replace HB := zMk (zBt (by exact uT HB.out) hb)
                refine hK.out _ _ ⟨(zKc BK113.out 0).trans rfl, (zKc BK113.out 1).trans rfl, (zKc BK116.out 0).trans rfl, (zKc BK116.out 1).trans rfl, (zKc BK116.out 2).trans rfl, ((HB.out.cell (World.block_lt_of_cell? w _ hw118_0)).trans hw118_0), ((HB.out.cell (World.block_lt_of_cell? w _ hw118_1)).trans hw118_1), ((HB.out.cell (World.block_lt_of_cell? w _ hw118_2)).trans hw118_2)⟩ (fun hHeld => ?_)
                clear hK K
                refine norm_ (a' := ?_) ?_ ?_
                rotate_left
                · show Act.put _ (some 48) _ = _
                  simp only [Act.put, zSa, zSb, zSc, i64_w, i32_w]
                  rfl
                refine done_ (done_of HT_.out (by kernel_rfl)) ?_
                try go_wp2
                go_ret
                exact ⟨by first | rfl | (simp [errW_none, errW_some] <;> rfl) | (simp only [← hji25]; first | rfl | (simp [errW_none, errW_some] <;> rfl)) | (simp [*, errW_none, errW_some] <;> rfl), by exact uT HB.out⟩
              · rw [if_neg c38] at H
                have c38b0 : (t119 == 1) = false := beq_eq_false_iff_ne.mpr c38
                have c38b1 : (t119 != 1) = true := bne_iff_ne.mpr c38
                have H' := zMk H
                clear H
                have p115 : 0 ≤ (x19_1 : Int) := of_decide_eq_true (by assumption)
                have q115 : x19_1 < (l0_1.length : Int) := of_decide_eq_true (by assumption)
                obtain ⟨ad115, e115, hx115_0, hx115_1, hx115_2⟩ := at_T36 HR0_1.out x19_1 p115 q115
                cases e115
                replace hx115_0 := (HB.out.cell (World.block_lt_of_cell? w _ hx115_0)).trans hx115_0
                replace hx115_1 := (HB.out.cell (World.block_lt_of_cell? w _ hx115_1)).trans hx115_1
                replace hx115_2 := (HB.out.cell (World.block_lt_of_cell? w _ hx115_2)).trans hx115_2
                replace p115 := eq_true p115
                replace q115 := eq_true q115
                try go_wp2_with (first | ((with_reducible refine gate_dst (N := 5) rfl ?_); refine box_event ?hg (N := 5) ?hd (cs := #[.int .i64 0, .int .i64 0, .int .i64 0]) (t := 36) ?hr ?_; (case hd => rfl); (case hg => rfl); (case hr => first | (go_simp; done)|(go_simp; rfl)|(go_simp; rw [show ∀ x : Int, IntKind.u32.wrap (IntKind.u8.wrap x) = x % 256 from fun x => (by show (x % 256) % 4294967296 = x % 256; omega)])); intro gb116 hg w47 hbox hb; have BK116 := zMk (hbox); have GW116 := zMk ((by rw [hg]; exact (zBs (by exact uT HB.out)) : w.heap.size ≤ gb116)); have GE116 := zMk ((by rw [hg]; exact (zBs (by exact uT HB.out)) : w.heap.size ≤ gb116)); have IGE116 := ownGe GE116.out; replace HB := zMk (zBt (by exact uT HB.out) hb); have NB113_116 := zMk ((by rw [hg]; exact Nat.ne_of_lt (blk_lt (g := gb113) (o := .cells #[.int .i64 a0_0, .slice (some ad115) l0_1.length c0_1] 24 (0, 0)) (by (with_reducible repeat (first |  refine zKn ?_ _|  refine zKd ?_|  refine zKa ?_ _)); exact BK113.out)) : gb113 ≠ gb116)); have NB116_113 := zMk ((by rw [hg]; exact Nat.ne_of_gt (blk_lt (g := gb113) (o := .cells #[.int .i64 a0_0, .slice (some ad115) l0_1.length c0_1] 24 (0, 0)) (by (with_reducible repeat (first |  refine zKn ?_ _|  refine zKd ?_|  refine zKa ?_ _)); exact BK113.out)) : gb116 ≠ gb113)); replace BK113 := zMk (zKb (g := gb113) (o := .cells #[.int .i64 a0_0, .slice (some ad115) l0_1.length c0_1] 24 (0, 0)) (by (with_reducible repeat (first |  refine zKn ?_ _|  refine zKd ?_|  refine zKa ?_ _)); exact BK113.out) hb); clear hb hbox hg; have hnb48 := NB116_113.out; have hnc48 := NB113_116.out; have hcz49_0 : w47.cell? ⟨gb116, 0, none⟩ = some (.int .i64 0) := (zKc BK116.out 0).trans rfl; have hcz49_1 : w47.cell? ⟨gb116, 1, none⟩ = some (.int .i64 0) := (zKc BK116.out 1).trans rfl; have hcz49_2 : w47.cell? ⟨gb116, 2, none⟩ = some (.int .i64 0) := (zKc BK116.out 2).trans rfl; have hfz49_0 := zKf BK116.out 0; have hfz49_1 := zKf BK116.out 1; have hfz49_2 := zKf BK116.out 2; have hcz50_0 : w47.cell? ⟨gb113, 0, none⟩ = some (.int .i64 a0_0) := (zKc BK113.out 0).trans rfl; have hcz50_1 : w47.cell? ⟨gb113, 1, none⟩ = some (.slice (some ad115) l0_1.length c0_1) := (zKc BK113.out 1).trans rfl; have hfz50_0 := zKf BK113.out 0; have hfz50_1 := zKf BK113.out 1)|((with_reducible refine gate_callee (f := 33) rfl ?_); refine goesL_ (some 27) rfl rfl Try.func33 (by kernel_rfl) rfl #[.int .i64 a0_0, .agg #[.int .i64 ((rd_T36 l0_1 x19_1).f0), .int .i64 ((rd_T36 l0_1 x19_1).f1), .int .i64 ((rd_T36 l0_1 x19_1).f2)]] rfl (by (try simp only [zMa, zMc, zMn]); first |  done|  rfl|  (simp only [zLd, zLt]; rfl)) ?_; (with_reducible refine (graph_alone.calls k1 a0_0 ((rd_T36 l0_1 x19_1).f0) ((rd_T36 l0_1 x19_1).f1) ((rd_T36 l0_1 x19_1).f2) t117 _ A9.out).mono ?_); rintro e w51 ⟨rfl, hb⟩; refine ⟨_, rfl, ?_⟩; replace BK113 := zMk (zKb (g := gb113) (o := .cells #[.int .i64 a0_0, .slice (some ad115) l0_1.length c0_1] 24 (0, 0)) (by (with_reducible repeat (first |  refine zKn ?_ _|  refine zKd ?_|  refine zKa ?_ _)); refine blk_far ?_ NB113_116.out _; (with_reducible repeat (first |  refine zKn ?_ _|  refine zKd ?_|  refine zKa ?_ _)); refine blk_far ?_ NB113_116.out _; (with_reducible repeat (first |  refine zKn ?_ _|  refine zKd ?_|  refine zKa ?_ _)); refine blk_far ?_ NB113_116.out _; (with_reducible repeat (first |  refine zKn ?_ _|  refine zKd ?_|  refine zKa ?_ _)); exact BK113.out) hb); replace BK116 := zMk (zKb (g := gb116) (o := .cells #[.int .i64 ((rd_T36 l0_1 x19_1).f0), .int .i64 ((rd_T36 l0_1 x19_1).f1), .int .i64 ((rd_T36 l0_1 x19_1).f2)] 36 (0, 0)) (by (with_reducible repeat (first |  refine zKn ?_ _|  refine zKd ?_|  refine zKa ?_ _)); refine blk_put (cs := #[.int .i64 ((rd_T36 l0_1 x19_1).f0), .int .i64 ((rd_T36 l0_1 x19_1).f1), .int .i64 0]) ?_ 2 _ rfl; (with_reducible repeat (first |  refine zKn ?_ _|  refine zKd ?_|  refine zKa ?_ _)); refine blk_put (cs := #[.int .i64 ((rd_T36 l0_1 x19_1).f0), .int .i64 0, .int .i64 0]) ?_ 1 _ rfl; (with_reducible repeat (first |  refine zKn ?_ _|  refine zKd ?_|  refine zKa ?_ _)); refine blk_put (cs := #[.int .i64 0, .int .i64 0, .int .i64 0]) ?_ 0 _ rfl; (with_reducible repeat (first |  refine zKn ?_ _|  refine zKd ?_|  refine zKa ?_ _)); exact BK116.out) hb); replace HB := zMk (zBt (by exact uT HB.out) hb); have hcz52_0 : w51.cell? ⟨gb116, 0, none⟩ = some (.int .i64 ((rd_T36 l0_1 x19_1).f0)) := (zKc BK116.out 0).trans rfl; have hcz52_1 : w51.cell? ⟨gb116, 1, none⟩ = some (.int .i64 ((rd_T36 l0_1 x19_1).f1)) := (zKc BK116.out 1).trans rfl; have hcz52_2 : w51.cell? ⟨gb116, 2, none⟩ = some (.int .i64 ((rd_T36 l0_1 x19_1).f2)) := (zKc BK116.out 2).trans rfl; have hfz52_0 := zKf BK116.out 0; have hfz52_1 := zKf BK116.out 1; have hfz52_2 := zKf BK116.out 2))
                replace BK113 := zMk (zKd BK113.out)
                replace BK116 := zMk (zKd BK116.out)
                replace HB := zMk (zBd HB.out)
                have p118 : 0 ≤ ((ji25) : Int) := of_decide_eq_true (by assumption)
                have q118 : (ji25) < (l0_1.length : Int) := of_decide_eq_true (by assumption)
                obtain ⟨ad118, e118, hx118_0, hx118_1, hx118_2⟩ := at_T36 HR0_1.out (ji25) p118 q118
                have hw118_2 := hx118_2
                have hw118_1 := hx118_1
                have hw118_0 := hx118_0
                obtain rfl : ad115 = ad118 := (by injection e118)
                replace hx118_0 := (HB.out.cell (World.block_lt_of_cell? w _ hx118_0)).trans hx118_0
                replace hx118_1 := (HB.out.cell (World.block_lt_of_cell? w _ hx118_1)).trans hx118_1
                replace hx118_2 := (HB.out.cell (World.block_lt_of_cell? w _ hx118_2)).trans hx118_2
                replace p118 := eq_true p118
                replace q118 := eq_true q118
                refine start_ (n := 8) (S := fun w' => w'.cell? ⟨gb113, 0, none⟩ = some (.int .i64 a0_0) ∧ w'.cell? ⟨gb113, 1, none⟩ = some (.slice (some ad115) l0_1.length c0_1) ∧ w'.cell? ⟨gb116, 0, none⟩ = some (.int .i64 ((rd_T36 l0_1 x19_1).f0)) ∧ w'.cell? ⟨gb116, 1, none⟩ = some (.int .i64 ((rd_T36 l0_1 x19_1).f1)) ∧ w'.cell? ⟨gb116, 2, none⟩ = some (.int .i64 ((rd_T36 l0_1 x19_1).f2)) ∧ w'.cell? (ad115.add (((ji25)).toNat * 3)) = some (.int .i64 ((rd_T36 l0_1 (ji25)).f0)) ∧ w'.cell? ⟨(ad115.add (((ji25)).toNat * 3)).block, (ad115.add (((ji25)).toNat * 3)).off + 1, none⟩ = some (.int .i64 ((rd_T36 l0_1 (ji25)).f1)) ∧ w'.cell? ⟨(ad115.add (((ji25)).toNat * 3)).block, (ad115.add (((ji25)).toNat * 3)).off + 2, none⟩ = some (.int .i64 ((rd_T36 l0_1 (ji25)).f2))) (ds := []) #[false, false, false, false, false, false, false, false] (by kernel_rfl) rfl rfl ⟨(zKc BK113.out 0).trans rfl, (zKc BK113.out 1).trans rfl, (zKc BK116.out 0).trans rfl, (zKc BK116.out 1).trans rfl, (zKc BK116.out 2).trans rfl, ((HB.out.cell (World.block_lt_of_cell? w _ hw118_0)).trans hw118_0), ((HB.out.cell (World.block_lt_of_cell? w _ hw118_1)).trans hw118_1), ((HB.out.cell (World.block_lt_of_cell? w _ hw118_2)).trans hw118_2)⟩ (fun hHeld => ?_); refine with_tabW graph_Right.tab13 graph_Right.bits13 (fun HT_ HW_ => ?_)
                generalize w51.drew = w53 at BK113 BK116 HB hx118_0 hx118_1 hx118_2 hHeld ⊢
                refine pure_ (i := 0) (N := some 41) (v := ?_) (a' := ?_) #[true, false, false, false, false, false, false, false] rfl rfl (any_of HT_.out (by kernel_rfl)) (fun _ _ _ h => h) (Or.inl ⟨by rfl, ?_⟩) ?_ ?_
                rotate_left
                · intro w'
                  go_simp
                  with_reducible rfl
                rotate_left
                · simp only [Act.put, zSa, zSb, zSc, i64_w, i32_w]
                  rfl
                refine pure_ (i := 2) (N := some 43) (v := ?_) (a' := ?_) #[true, false, true, false, false, false, false, false] rfl rfl (any_of HT_.out (by kernel_rfl)) (fun _ _ _ h => h) (Or.inl ⟨by rfl, ?_⟩) ?_ ?_
                rotate_left
                · intro w'
                  go_simp
                  with_reducible rfl
                rotate_left
                · simp only [Act.put, zSa, zSb, zSc, i64_w, i32_w]
                  rfl
                refine pure_ (i := 3) (N := some 44) (v := ?_) (a' := ?_) #[true, false, true, true, false, false, false, false] rfl rfl (any_of HT_.out (by kernel_rfl)) (fun _ _ _ h => h) (Or.inl ⟨by rfl, ?_⟩) ?_ ?_
                rotate_left
                · intro w'
                  go_simp
                  with_reducible rfl
                rotate_left
                · simp only [Act.put, zSa, zSb, zSc, i64_w, i32_w]
                  rfl
                refine take_ (i := 1) (N := some 42) (v := ?_) (a' := ?_) #[true, true, true, true, false, false, false, false] rfl rfl (take_ofW HT_.out HW_.out (by kernel_rfl)) (fun _ _ _ h => h) (Or.inl ⟨by rfl, ?_⟩) hHeld ?_ ?_
                rotate_left
                · rintro w' ⟨s0, s1, s2, s3, s4, s5, s6, s7⟩
                  go_simp
                  with_reducible rfl
                rotate_left
                · simp only [Act.put, zSa, zSb, zSc, i64_w, i32_w]
                  rfl
                refine pure_ (i := 4) (N := some 45) (v := ?_) (a' := ?_) #[true, true, true, true, true, false, false, false] rfl rfl (any_of HT_.out (by kernel_rfl)) (fun _ _ _ h => h) (Or.inl ⟨by rfl, ?_⟩) ?_ ?_
                rotate_left
                · intro w'
                  go_simp
                  with_reducible rfl
                rotate_left
                · simp only [Act.put, zSa, zSb, zSc, i64_w, i32_w]
                  rfl
                refine take_ (i := 5) (N := some 46) (v := ?_) (a' := ?_) #[true, true, true, true, true, true, false, false] rfl rfl (take_ofW HT_.out HW_.out (by kernel_rfl)) (fun _ _ _ h => h) (Or.inl ⟨by rfl, ?_⟩) hHeld ?_ ?_
                rotate_left
                · rintro w' ⟨s0, s1, s2, s3, s4, s5, s6, s7⟩
                  go_simp
                  with_reducible rfl
                rotate_left
                · simp only [Act.put, zSa, zSb, zSc, i64_w, i32_w]
                  rfl
                refine take_ (i := 6) (N := some 47) (v := ?_) (a' := ?_) #[true, true, true, true, true, true, true, false] rfl rfl (take_ofW HT_.out HW_.out (by kernel_rfl)) (fun _ _ _ h => h) (Or.inl ⟨by rfl, ?_⟩) hHeld ?_ ?_
                rotate_left
                · rintro w' ⟨s0, s1, s2, s3, s4, s5, s6, s7⟩
                  go_simp
                  with_reducible rfl
                rotate_left
                · simp only [Act.put, zSa, zSb, zSc, i64_w, i32_w]
                  rfl
                refine one_ (i := 7) (N := some 48) #[true, true, true, true, true, true, true, true] rfl rfl (one_of HT_.out (by kernel_rfl)) (by decide) (fun K hK => ?_)
                refine goes_ Try.func34 (by kernel_rfl) rfl #[.agg #[.int .i64 ((rd_T36 l0_1 (ji25)).f0), .int .i64 ((rd_T36 l0_1 (ji25)).f1), .int .i64 ((rd_T36 l0_1 (ji25)).f2)], .agg #[.int .i64 ((rd_T36 l0_1 x19_1).f0), .int .i64 ((rd_T36 l0_1 x19_1).f1), .int .i64 ((rd_T36 l0_1 x19_1).f2)]] (by rfl) rfl rfl (by (try simp only [zMa, zMc, zMn]); first | done | (simp only [hji25]; rfl) | rfl | (simp only [zLd, zLt]; rfl)) ?_
                with_reducible refine (graph_order.calls k1 ((rd_T36 l0_1 (ji25)).f0) ((rd_T36 l0_1 (ji25)).f1) ((rd_T36 l0_1 (ji25)).f2) ((rd_T36 l0_1 x19_1).f0) ((rd_T36 l0_1 x19_1).f1) ((rd_T36 l0_1 x19_1).f2) t119 _ A28.out).mono ?_
                rintro e w54 ⟨rfl, hb⟩
                refine ⟨_, rfl, ?_⟩
                replace BK113 := zMk (zKb (g := gb113) (o := .cells #[.int .i64 a0_0, .slice (some ad115) l0_1.length c0_1] 24 (0, 0)) (by (with_reducible repeat (first | refine zKn ?_ _ | refine zKd ?_ | refine zKa ?_ _)); exact BK113.out) hb)
                replace BK116 := zMk (zKb (g := gb116) (o := .cells #[.int .i64 ((rd_T36 l0_1 x19_1).f0), .int .i64 ((rd_T36 l0_1 x19_1).f1), .int .i64 ((rd_T36 l0_1 x19_1).f2)] 36 (0, 0)) (by (with_reducible repeat (first | refine zKn ?_ _ | refine zKd ?_ | refine zKa ?_ _)); exact BK116.out) hb)
                replace HB := zMk (zBt (by exact uT HB.out) hb)
                refine hK.out _ _ ⟨(zKc BK113.out 0).trans rfl, (zKc BK113.out 1).trans rfl, (zKc BK116.out 0).trans rfl, (zKc BK116.out 1).trans rfl, (zKc BK116.out 2).trans rfl, ((HB.out.cell (World.block_lt_of_cell? w _ hw118_0)).trans hw118_0), ((HB.out.cell (World.block_lt_of_cell? w _ hw118_1)).trans hw118_1), ((HB.out.cell (World.block_lt_of_cell? w _ hw118_2)).trans hw118_2)⟩ (fun hHeld => ?_)
                clear hK K
                refine norm_ (a' := ?_) ?_ ?_
                rotate_left
                · show Act.put _ (some 48) _ = _
                  simp only [Act.put, zSa, zSb, zSc, i64_w, i32_w]
                  rfl
                refine done_ (done_of HT_.out (by kernel_rfl)) ?_
                try go_wp2
                go_roundg k1
                case measure => have := HK1.out; omega
                case rel => exact ⟨(wrap64 (x19_1 + 1)), (by first | rfl | (simp; done) | (simp [*]; done)), H', ⟨by have := HK1.out; omega⟩, ⟨by (with_reducible repeat (first | refine zKn ?_ _ | refine zKd ?_ | refine zKa ?_ _)); exact BK113.out⟩, ⟨by exact uT HB.out⟩⟩
      · rw [if_neg c10] at H
        have c10b0 : (t117 == 0) = false := beq_eq_false_iff_ne.mpr c10
        have c10b1 : (t117 != 0) = true := bne_iff_ne.mpr c10
        obtain rfl := zOi H
        have p115 : 0 ≤ (x19_1 : Int) := of_decide_eq_true (by assumption)
        have q115 : x19_1 < (l0_1.length : Int) := of_decide_eq_true (by assumption)
        obtain ⟨ad115, e115, hx115_0, hx115_1, hx115_2⟩ := at_T36 HR0_1.out x19_1 p115 q115
        cases e115
        replace hx115_0 := (HB.out.cell (World.block_lt_of_cell? w _ hx115_0)).trans hx115_0
        replace hx115_1 := (HB.out.cell (World.block_lt_of_cell? w _ hx115_1)).trans hx115_1
        replace hx115_2 := (HB.out.cell (World.block_lt_of_cell? w _ hx115_2)).trans hx115_2
        replace p115 := eq_true p115
        replace q115 := eq_true q115
        go_wp2_with (first | ((with_reducible refine gate_dst (N := 5) rfl ?_); refine box_event ?hg (N := 5) ?hd (cs := #[.int .i64 0, .int .i64 0, .int .i64 0]) (t := 36) ?hr ?_; (case hd => rfl); (case hg => rfl); (case hr => first | (go_simp; done)|(go_simp; rfl)|(go_simp; rw [show ∀ x : Int, IntKind.u32.wrap (IntKind.u8.wrap x) = x % 256 from fun x => (by show (x % 256) % 4294967296 = x % 256; omega)])); intro gb116 hg w55 hbox hb; have BK116 := zMk (hbox); have GW116 := zMk ((by rw [hg]; exact (zBs (by exact uT HB.out)) : w.heap.size ≤ gb116)); have GE116 := zMk ((by rw [hg]; exact (zBs (by exact uT HB.out)) : w.heap.size ≤ gb116)); have IGE116 := ownGe GE116.out; replace HB := zMk (zBt (by exact uT HB.out) hb); have NB113_116 := zMk ((by rw [hg]; exact Nat.ne_of_lt (blk_lt (g := gb113) (o := .cells #[.int .i64 a0_0, .slice (some ad115) l0_1.length c0_1] 24 (0, 0)) (by (with_reducible repeat (first |  refine zKn ?_ _|  refine zKd ?_|  refine zKa ?_ _)); exact BK113.out)) : gb113 ≠ gb116)); have NB116_113 := zMk ((by rw [hg]; exact Nat.ne_of_gt (blk_lt (g := gb113) (o := .cells #[.int .i64 a0_0, .slice (some ad115) l0_1.length c0_1] 24 (0, 0)) (by (with_reducible repeat (first |  refine zKn ?_ _|  refine zKd ?_|  refine zKa ?_ _)); exact BK113.out)) : gb116 ≠ gb113)); replace BK113 := zMk (zKb (g := gb113) (o := .cells #[.int .i64 a0_0, .slice (some ad115) l0_1.length c0_1] 24 (0, 0)) (by (with_reducible repeat (first |  refine zKn ?_ _|  refine zKd ?_|  refine zKa ?_ _)); exact BK113.out) hb); clear hb hbox hg; have hnb56 := NB116_113.out; have hnc56 := NB113_116.out; have hcz57_0 : w55.cell? ⟨gb116, 0, none⟩ = some (.int .i64 0) := (zKc BK116.out 0).trans rfl; have hcz57_1 : w55.cell? ⟨gb116, 1, none⟩ = some (.int .i64 0) := (zKc BK116.out 1).trans rfl; have hcz57_2 : w55.cell? ⟨gb116, 2, none⟩ = some (.int .i64 0) := (zKc BK116.out 2).trans rfl; have hfz57_0 := zKf BK116.out 0; have hfz57_1 := zKf BK116.out 1; have hfz57_2 := zKf BK116.out 2; have hcz58_0 : w55.cell? ⟨gb113, 0, none⟩ = some (.int .i64 a0_0) := (zKc BK113.out 0).trans rfl; have hcz58_1 : w55.cell? ⟨gb113, 1, none⟩ = some (.slice (some ad115) l0_1.length c0_1) := (zKc BK113.out 1).trans rfl; have hfz58_0 := zKf BK113.out 0; have hfz58_1 := zKf BK113.out 1)|((with_reducible refine gate_callee (f := 33) rfl ?_); refine goesL_ (some 27) rfl rfl Try.func33 (by kernel_rfl) rfl #[.int .i64 a0_0, .agg #[.int .i64 ((rd_T36 l0_1 x19_1).f0), .int .i64 ((rd_T36 l0_1 x19_1).f1), .int .i64 ((rd_T36 l0_1 x19_1).f2)]] rfl (by (try simp only [zMa, zMc, zMn]); first |  done|  rfl|  (simp only [zLd, zLt]; rfl)) ?_; (with_reducible refine (graph_alone.calls k1 a0_0 ((rd_T36 l0_1 x19_1).f0) ((rd_T36 l0_1 x19_1).f1) ((rd_T36 l0_1 x19_1).f2) t117 _ A9.out).mono ?_); rintro e w59 ⟨rfl, hb⟩; refine ⟨_, rfl, ?_⟩; replace BK113 := zMk (zKb (g := gb113) (o := .cells #[.int .i64 a0_0, .slice (some ad115) l0_1.length c0_1] 24 (0, 0)) (by (with_reducible repeat (first |  refine zKn ?_ _|  refine zKd ?_|  refine zKa ?_ _)); refine blk_far ?_ NB113_116.out _; (with_reducible repeat (first |  refine zKn ?_ _|  refine zKd ?_|  refine zKa ?_ _)); refine blk_far ?_ NB113_116.out _; (with_reducible repeat (first |  refine zKn ?_ _|  refine zKd ?_|  refine zKa ?_ _)); refine blk_far ?_ NB113_116.out _; (with_reducible repeat (first |  refine zKn ?_ _|  refine zKd ?_|  refine zKa ?_ _)); exact BK113.out) hb); replace BK116 := zMk (zKb (g := gb116) (o := .cells #[.int .i64 ((rd_T36 l0_1 x19_1).f0), .int .i64 ((rd_T36 l0_1 x19_1).f1), .int .i64 ((rd_T36 l0_1 x19_1).f2)] 36 (0, 0)) (by (with_reducible repeat (first |  refine zKn ?_ _|  refine zKd ?_|  refine zKa ?_ _)); refine blk_put (cs := #[.int .i64 ((rd_T36 l0_1 x19_1).f0), .int .i64 ((rd_T36 l0_1 x19_1).f1), .int .i64 0]) ?_ 2 _ rfl; (with_reducible repeat (first |  refine zKn ?_ _|  refine zKd ?_|  refine zKa ?_ _)); refine blk_put (cs := #[.int .i64 ((rd_T36 l0_1 x19_1).f0), .int .i64 0, .int .i64 0]) ?_ 1 _ rfl; (with_reducible repeat (first |  refine zKn ?_ _|  refine zKd ?_|  refine zKa ?_ _)); refine blk_put (cs := #[.int .i64 0, .int .i64 0, .int .i64 0]) ?_ 0 _ rfl; (with_reducible repeat (first |  refine zKn ?_ _|  refine zKd ?_|  refine zKa ?_ _)); exact BK116.out) hb); replace HB := zMk (zBt (by exact uT HB.out) hb)))
        go_ret
        exact ⟨by first | rfl | (simp [errW_none, errW_some] <;> rfl) | (simp [*, errW_none, errW_some] <;> rfl), by exact uT HB.out⟩
    · rw [if_neg c6] at H
      have c6b0 : decide (x19_1 < (l0_1.length : Int)) = false := decide_eq_false c6
      clear c6
      obtain rfl := zOi H
      go_wp2
      go_ret
      exact ⟨by first | rfl | (simp [errW_none, errW_some] <;> rfl) | (simp [*, errW_none, errW_some] <;> rfl), by exact uT HB.out⟩
  · rw [if_neg c3] at H
    have c3b0 : (t114 == 0) = false := beq_eq_false_iff_ne.mpr c3
    have c3b1 : (t114 != 0) = true := bne_iff_ne.mpr c3
    obtain rfl := zOi H
    go_enter Try.func11, Try.ntmps11
    go_wp2_with (first | ((with_reducible refine gate_dst (N := 1) rfl ?_); refine box_event ?hg (N := 1) ?hd (cs := #[.int .i64 a0_0, .slice A0_1 l0_1.length c0_1]) (t := 24) ?hr ?_; (case hd => rfl); (case hg => rfl); (case hr => first | (go_simp; done)|(go_simp; rfl)|(go_simp; rw [show ∀ x : Int, IntKind.u32.wrap (IntKind.u8.wrap x) = x % 256 from fun x => (by show (x % 256) % 4294967296 = x % 256; omega)])); intro gb113 hg w60 hbox hb; have BK113 := zMk (hbox); have GW113 := zMk ((by rw [hg]; exact (zBs (by exact uT HB.out)) : w.heap.size ≤ gb113)); have GE113 := zMk ((by rw [hg]; exact (zBs (by exact uT HB.out)) : w.heap.size ≤ gb113)); have IGE113 := ownGe GE113.out; replace HB := zMk (zBt (by exact uT HB.out) hb); clear hb hbox hg; have hcz61_0 : w60.cell? ⟨gb113, 0, none⟩ = some (.int .i64 a0_0) := (zKc BK113.out 0).trans rfl; have hcz61_1 : w60.cell? ⟨gb113, 1, none⟩ = some (.slice A0_1 l0_1.length c0_1) := (zKc BK113.out 1).trans rfl; have hfz61_0 := zKf BK113.out 0; have hfz61_1 := zKf BK113.out 1)|((with_reducible refine gate_callee (f := 32) rfl ?_); refine goesL_ (some 12) rfl rfl Try.func32 (by kernel_rfl) rfl #[.int .i64 a0_0, .int .i64 (l0_1.length : Int)] rfl (by (try simp only [zMa, zMc, zMn]); first |  done|  rfl|  (simp only [zLd, zLt]; rfl)) ?_; (with_reducible refine (graph_sizes.calls a0_0 (l0_1.length : Int) t114 _ A2.out).mono ?_); rintro e w' ⟨rfl, ⟨nd, rfl⟩⟩; refine ⟨_, rfl, ?_⟩))
    go_ret
    exact ⟨by first | rfl | (simp [errW_none, errW_some] <;> rfl) | (simp [*, errW_none, errW_some] <;> rfl), by exact uT HB.out⟩


def filigreeref04_many.f (a0 : Int) (a1 : Int) : Option (Int) := if a0 < 0 then (some 1) else (if a0 > 1048576 then (some 4) else (if a1 > 4194304 then (some 4) else (some 0)))
theorem filigreeref04_many.calls (a0 : Int) (a1 : Int) (r : Int) (w : World) (h : filigreeref04_many.f a0 a1 = some r) :
    Calls Try.prog 35 #[.int .i64 a0, .int .i64 a1] w fun e w' => e = .returned (.int .i64 r) ∧ Drawn0 w w' := by
  have H : (if a0 < 0 then (some 1) else (if a0 > 1048576 then (some 4) else (if a1 > 4194304 then (some 4) else (some 0)))) = some r := h
  clear h
  by_cases c3 : a0 < 0
  · rw [if_pos c3] at H
    have c3b0 : decide (a0 < 0) = true := decide_eq_true c3
    clear c3
    obtain rfl := zOi H
    go_enter Try.func35, Try.ntmps35
    go_wp2
    go_ret
    exact ⟨by first | rfl | (simp; done) | (simp [*]; done), by repeat (first | exact Drawn0.refl _ | apply Drawn0.step)⟩
  · rw [if_neg c3] at H
    have c3b0 : decide (a0 < 0) = false := decide_eq_false c3
    clear c3
    by_cases c4 : a0 > 1048576
    · rw [if_pos c4] at H
      have c4b0 : decide (1048576 < a0) = true := decide_eq_true c4
      clear c4
      obtain rfl := zOi H
      go_enter Try.func35, Try.ntmps35
      go_wp2
      go_ret
      exact ⟨by first | rfl | (simp; done) | (simp [*]; done), by repeat (first | exact Drawn0.refl _ | apply Drawn0.step)⟩
    · rw [if_neg c4] at H
      have c4b0 : decide (1048576 < a0) = false := decide_eq_false c4
      clear c4
      by_cases c5 : a1 > 4194304
      · rw [if_pos c5] at H
        have c5b0 : decide (4194304 < a1) = true := decide_eq_true c5
        clear c5
        obtain rfl := zOi H
        go_enter Try.func35, Try.ntmps35
        go_wp2
        go_ret
        exact ⟨by first | rfl | (simp; done) | (simp [*]; done), by repeat (first | exact Drawn0.refl _ | apply Drawn0.step)⟩
      · rw [if_neg c5] at H
        have c5b0 : decide (4194304 < a1) = false := decide_eq_false c5
        clear c5
        obtain rfl := zOi H
        go_enter Try.func35, Try.ntmps35
        go_wp2
        go_ret
        exact ⟨by first | rfl | (simp; done) | (simp [*]; done), by repeat (first | exact Drawn0.refl _ | apply Drawn0.step)⟩


def filigreeref04_edge.j0 : Nat → Bool → Int → Int → Int → Option (Int)
  | 0, _, _, _, _ => none
  | k + 1, x24, x360000, x360001, x360002 => if x24 = true then (some 5) else (if x360000 = x360001 then (some 6) else (if x360002 ≤ (-2147483648) then (some 8) else (if x360002 ≥ 2147483648 then (some 8) else (some 0))))
def filigreeref04_edge.f (k : Nat) (a0 : Int) (a1_0 : Int) (a1_1 : Int) (a1_2 : Int) : Option (Int) := if a1_0 < 0 then (filigreeref04_edge.j0 k true a1_0 a1_1 a1_2) else (if a1_0 ≥ a0 then (filigreeref04_edge.j0 k true a1_0 a1_1 a1_2) else (if a1_1 < 0 then (filigreeref04_edge.j0 k true a1_0 a1_1 a1_2) else (filigreeref04_edge.j0 k (decide (a1_1 ≥ a0)) a1_0 a1_1 a1_2)))
theorem filigreeref04_edge.calls (k : Nat) (a0 : Int) (a1_0 : Int) (a1_1 : Int) (a1_2 : Int) (r : Int) (w : World) (h : filigreeref04_edge.f k a0 a1_0 a1_1 a1_2 = some r) :
    Calls Try.prog 36 #[.int .i64 a0, .agg #[.int .i64 a1_0, .int .i64 a1_1, .int .i64 a1_2]] w fun e w' => e = .returned (.int .i64 r) ∧ Below w.heap.size w w' := by
  have hu36 := Try.underlying36
  have HB := zMk (Below.refl w.heap.size w)
  have H : (if a1_0 < 0 then (filigreeref04_edge.j0 k true a1_0 a1_1 a1_2) else (if a1_0 ≥ a0 then (filigreeref04_edge.j0 k true a1_0 a1_1 a1_2) else (if a1_1 < 0 then (filigreeref04_edge.j0 k true a1_0 a1_1 a1_2) else (filigreeref04_edge.j0 k (decide (a1_1 ≥ a0)) a1_0 a1_1 a1_2)))) = some r := h
  clear h
  have HC3 := zMk H
  clear H
  go_enter Try.func36, Try.ntmps36
  go_upto_region 1 with (first | ((with_reducible refine gate_dst (N := 3) rfl ?_); refine box_event ?hg (N := 3) ?hd (cs := #[.int .i64 a1_0, .int .i64 a1_1, .int .i64 a1_2]) (t := 36) ?hr ?_; (case hd => rfl); (case hg => rfl); (case hr => first | (go_simp; done)|(go_simp; rfl)|(go_simp; rw [show ∀ x : Int, IntKind.u32.wrap (IntKind.u8.wrap x) = x % 256 from fun x => (by show (x % 256) % 4294967296 = x % 256; omega)])); intro gb359 hg w4 hbox hb; have BK359 := zMk (hbox); have GW359 := zMk ((by rw [hg]; exact (zBs (by exact uT HB.out)) : w.heap.size ≤ gb359)); have GE359 := zMk ((by rw [hg]; exact (zBs (by exact uT HB.out)) : w.heap.size ≤ gb359)); have IGE359 := ownGe GE359.out; replace HB := zMk (zBt (by exact uT HB.out) hb); clear hb hbox hg))
  (try simp only [Act.put, zSa, zSb, zSc])
  go_cut [24] (fun v24 wc => ∃ (kq : Nat) (x24_2 : Bool), v24 = .bool x24_2 ∧ Aside0 (filigreeref04_edge.j0 kq x24_2 a1_0 a1_1 a1_2 = some r) ∧ Aside0 (kq ≤ k) ∧ Aside0 (wc.heap[gb359]? = some (.cells #[.int .i64 a1_0, .int .i64 a1_1, .int .i64 a1_2] 36 (0, 0))) ∧ Aside0 (Below w.heap.size w wc))
  case first =>
    have H := HC3.out
    clear HC3
    by_cases c5 : a1_0 < 0
    · rw [if_pos c5] at H
      have c5b0 : decide (a1_0 < 0) = true := decide_eq_true c5
      clear c5
      (first | rw [c5b0] | (simp only [i64_w, i32_w]; rw [c5b0]) | rw [c5b1] | skip)
      have H' := zMk H
      clear H
      have hcz6_0 : w4.cell? ⟨gb359, 0, none⟩ = some (.int .i64 a1_0) := (zKc BK359.out 0).trans rfl
      have hcz6_1 : w4.cell? ⟨gb359, 1, none⟩ = some (.int .i64 a1_1) := (zKc BK359.out 1).trans rfl
      have hcz6_2 : w4.cell? ⟨gb359, 2, none⟩ = some (.int .i64 a1_2) := (zKc BK359.out 2).trans rfl
      have hfz6_0 := zKf BK359.out 0
      have hfz6_1 := zKf BK359.out 1
      have hfz6_2 := zKf BK359.out 2
      go_wp2
      go_meet
      case rel => exact ⟨_, (true), (by first | rfl | (simp; done) | (simp [*]; done)), H', ⟨by first | omega | exact Nat.le_refl _⟩, ⟨by (with_reducible repeat (first | refine zKn ?_ _ | refine zKd ?_ | refine zKa ?_ _)); exact BK359.out⟩, ⟨by exact uT HB.out⟩⟩
    · rw [if_neg c5] at H
      have c5b0 : decide (a1_0 < 0) = false := decide_eq_false c5
      clear c5
      (first | rw [c5b0] | (simp only [i64_w, i32_w]; rw [c5b0]) | rw [c5b1] | skip)
      by_cases c7 : a1_0 ≥ a0
      · rw [if_pos c7] at H
        have c7b0 : decide (a0 ≤ a1_0) = true := decide_eq_true c7
        clear c7
        have H' := zMk H
        clear H
        have hcz8_0 : w4.cell? ⟨gb359, 0, none⟩ = some (.int .i64 a1_0) := (zKc BK359.out 0).trans rfl
        have hcz8_1 : w4.cell? ⟨gb359, 1, none⟩ = some (.int .i64 a1_1) := (zKc BK359.out 1).trans rfl
        have hcz8_2 : w4.cell? ⟨gb359, 2, none⟩ = some (.int .i64 a1_2) := (zKc BK359.out 2).trans rfl
        have hfz8_0 := zKf BK359.out 0
        have hfz8_1 := zKf BK359.out 1
        have hfz8_2 := zKf BK359.out 2
        go_wp2
        go_meet
        case rel => exact ⟨_, (true), (by first | rfl | (simp; done) | (simp [*]; done)), H', ⟨by first | omega | exact Nat.le_refl _⟩, ⟨by (with_reducible repeat (first | refine zKn ?_ _ | refine zKd ?_ | refine zKa ?_ _)); exact BK359.out⟩, ⟨by exact uT HB.out⟩⟩
      · rw [if_neg c7] at H
        have c7b0 : decide (a0 ≤ a1_0) = false := decide_eq_false c7
        clear c7
        by_cases c9 : a1_1 < 0
        · rw [if_pos c9] at H
          have c9b0 : decide (a1_1 < 0) = true := decide_eq_true c9
          clear c9
          have H' := zMk H
          clear H
          have hcz10_0 : w4.cell? ⟨gb359, 0, none⟩ = some (.int .i64 a1_0) := (zKc BK359.out 0).trans rfl
          have hcz10_1 : w4.cell? ⟨gb359, 1, none⟩ = some (.int .i64 a1_1) := (zKc BK359.out 1).trans rfl
          have hcz10_2 : w4.cell? ⟨gb359, 2, none⟩ = some (.int .i64 a1_2) := (zKc BK359.out 2).trans rfl
          have hfz10_0 := zKf BK359.out 0
          have hfz10_1 := zKf BK359.out 1
          have hfz10_2 := zKf BK359.out 2
          go_wp2
          go_meet
          case rel => exact ⟨_, (true), (by first | rfl | (simp; done) | (simp [*]; done)), H', ⟨by first | omega | exact Nat.le_refl _⟩, ⟨by (with_reducible repeat (first | refine zKn ?_ _ | refine zKd ?_ | refine zKa ?_ _)); exact BK359.out⟩, ⟨by exact uT HB.out⟩⟩
        · rw [if_neg c9] at H
          have c9b0 : decide (a1_1 < 0) = false := decide_eq_false c9
          clear c9
          have H' := zMk H
          clear H
          have hcz11_0 : w4.cell? ⟨gb359, 0, none⟩ = some (.int .i64 a1_0) := (zKc BK359.out 0).trans rfl
          have hcz11_1 : w4.cell? ⟨gb359, 1, none⟩ = some (.int .i64 a1_1) := (zKc BK359.out 1).trans rfl
          have hcz11_2 : w4.cell? ⟨gb359, 2, none⟩ = some (.int .i64 a1_2) := (zKc BK359.out 2).trans rfl
          have hfz11_0 := zKf BK359.out 0
          have hfz11_1 := zKf BK359.out 1
          have hfz11_2 := zKf BK359.out 2
          go_wp2
          go_meet
          case rel => exact ⟨_, (decide (a1_1 ≥ a0)), (by first | rfl | (simp; done) | (simp [*]; done)), H', ⟨by first | omega | exact Nat.le_refl _⟩, ⟨by (with_reducible repeat (first | refine zKn ?_ _ | refine zKd ?_ | refine zKa ?_ _)); exact BK359.out⟩, ⟨by exact uT HB.out⟩⟩
  case rest =>
    clear HC3
    obtain ⟨kq, x24_2, rfl, HA, HJ2, BK359, HB⟩ := hcut
    rcases kq with _ | kj2
    · exact absurd HA.out (by simp [filigreeref04_edge.j0])
    have H := HA.out
    clear HA
    simp only [filigreeref04_edge.j0] at H
    by_cases c12 : x24_2 = true
    · subst c12
      replace H : (some 5) = some r := by rw [if_pos rfl] at H; exact H
      obtain rfl := zOi H
      go_wp2
      go_ret
      exact ⟨by first | rfl | (simp [errW_none, errW_some] <;> rfl) | (simp [*, errW_none, errW_some] <;> rfl), by exact uT HB.out⟩
    · replace c12 := Bool.eq_false_iff.mpr c12
      subst c12
      replace H : (if a1_0 = a1_1 then (some 6) else (if a1_2 ≤ (-2147483648) then (some 8) else (if a1_2 ≥ 2147483648 then (some 8) else (some 0)))) = some r := by rw [if_neg (show ¬ (false = true) by decide)] at H; exact H
      by_cases c13 : a1_0 = a1_1
      · rw [if_pos c13] at H
        have c13b0 : (a1_0 == a1_1) = true := beq_iff_eq.mpr c13
        have c13b1 : (a1_0 != a1_1) = false := bne_eq_false_iff_eq.mpr c13
        clear c13
        obtain rfl := zOi H
        have hcz14_0 : wc.cell? ⟨gb359, 0, none⟩ = some (.int .i64 a1_0) := (zKc BK359.out 0).trans rfl
        have hcz14_1 : wc.cell? ⟨gb359, 1, none⟩ = some (.int .i64 a1_1) := (zKc BK359.out 1).trans rfl
        have hcz14_2 : wc.cell? ⟨gb359, 2, none⟩ = some (.int .i64 a1_2) := (zKc BK359.out 2).trans rfl
        have hfz14_0 := zKf BK359.out 0
        have hfz14_1 := zKf BK359.out 1
        have hfz14_2 := zKf BK359.out 2
        go_wp2
        go_ret
        exact ⟨by first | rfl | (simp [errW_none, errW_some] <;> rfl) | (simp [*, errW_none, errW_some] <;> rfl), by exact uT HB.out⟩
      · rw [if_neg c13] at H
        have c13b0 : (a1_0 == a1_1) = false := beq_eq_false_iff_ne.mpr c13
        have c13b1 : (a1_0 != a1_1) = true := bne_iff_ne.mpr c13
        by_cases c15 : a1_2 ≤ (-2147483648)
        · rw [if_pos c15] at H
          have c15b0 : decide (a1_2 ≤ (-2147483648)) = true := decide_eq_true c15
          clear c15
          obtain rfl := zOi H
          have hcz16_0 : wc.cell? ⟨gb359, 0, none⟩ = some (.int .i64 a1_0) := (zKc BK359.out 0).trans rfl
          have hcz16_1 : wc.cell? ⟨gb359, 1, none⟩ = some (.int .i64 a1_1) := (zKc BK359.out 1).trans rfl
          have hcz16_2 : wc.cell? ⟨gb359, 2, none⟩ = some (.int .i64 a1_2) := (zKc BK359.out 2).trans rfl
          have hfz16_0 := zKf BK359.out 0
          have hfz16_1 := zKf BK359.out 1
          have hfz16_2 := zKf BK359.out 2
          go_wp2
          go_ret
          exact ⟨by first | rfl | (simp [errW_none, errW_some] <;> rfl) | (simp [*, errW_none, errW_some] <;> rfl), by exact uT HB.out⟩
        · rw [if_neg c15] at H
          have c15b0 : decide (a1_2 ≤ (-2147483648)) = false := decide_eq_false c15
          clear c15
          by_cases c17 : a1_2 ≥ 2147483648
          · rw [if_pos c17] at H
            have c17b0 : decide (2147483648 ≤ a1_2) = true := decide_eq_true c17
            clear c17
            obtain rfl := zOi H
            have hcz18_0 : wc.cell? ⟨gb359, 0, none⟩ = some (.int .i64 a1_0) := (zKc BK359.out 0).trans rfl
            have hcz18_1 : wc.cell? ⟨gb359, 1, none⟩ = some (.int .i64 a1_1) := (zKc BK359.out 1).trans rfl
            have hcz18_2 : wc.cell? ⟨gb359, 2, none⟩ = some (.int .i64 a1_2) := (zKc BK359.out 2).trans rfl
            have hfz18_0 := zKf BK359.out 0
            have hfz18_1 := zKf BK359.out 1
            have hfz18_2 := zKf BK359.out 2
            go_wp2
            go_ret
            exact ⟨by first | rfl | (simp [errW_none, errW_some] <;> rfl) | (simp [*, errW_none, errW_some] <;> rfl), by exact uT HB.out⟩
          · rw [if_neg c17] at H
            have c17b0 : decide (2147483648 ≤ a1_2) = false := decide_eq_false c17
            clear c17
            obtain rfl := zOi H
            have hcz19_0 : wc.cell? ⟨gb359, 0, none⟩ = some (.int .i64 a1_0) := (zKc BK359.out 0).trans rfl
            have hcz19_1 : wc.cell? ⟨gb359, 1, none⟩ = some (.int .i64 a1_1) := (zKc BK359.out 1).trans rfl
            have hcz19_2 : wc.cell? ⟨gb359, 2, none⟩ = some (.int .i64 a1_2) := (zKc BK359.out 2).trans rfl
            have hfz19_0 := zKf BK359.out 0
            have hfz19_1 := zKf BK359.out 1
            have hfz19_2 := zKf BK359.out 2
            go_wp2
            go_ret
            exact ⟨by first | rfl | (simp [errW_none, errW_some] <;> rfl) | (simp [*, errW_none, errW_some] <;> rfl), by exact uT HB.out⟩


def filigreeref04_below.f (a0_0 : Int) (a0_1 : Int) (a0_2 : Int) (a1_0 : Int) (a1_1 : Int) (a1_2 : Int) : Option (Bool) := if a0_0 < a1_0 then (some true) else (if a0_0 = a1_0 then (some (decide (a0_1 < a1_1))) else (some false))
theorem filigreeref04_below.calls (a0_0 : Int) (a0_1 : Int) (a0_2 : Int) (a1_0 : Int) (a1_1 : Int) (a1_2 : Int) (r : Bool) (w : World) (h : filigreeref04_below.f a0_0 a0_1 a0_2 a1_0 a1_1 a1_2 = some r) :
    Calls Try.prog 37 #[.agg #[.int .i64 a0_0, .int .i64 a0_1, .int .i64 a0_2], .agg #[.int .i64 a1_0, .int .i64 a1_1, .int .i64 a1_2]] w fun e w' => e = .returned (.bool r) ∧ Below w.heap.size w w' := by
  have hu36 := Try.underlying36
  have HB := zMk (Below.refl w.heap.size w)
  have H : (if a0_0 < a1_0 then (some true) else (if a0_0 = a1_0 then (some (decide (a0_1 < a1_1))) else (some false))) = some r := h
  clear h
  by_cases c3 : a0_0 < a1_0
  · rw [if_pos c3] at H
    have c3b0 : decide (a0_0 < a1_0) = true := decide_eq_true c3
    clear c3
    obtain rfl := zOi H
    go_enter Try.func37, Try.ntmps37
    go_wp2_with (first | ((with_reducible refine gate_dst (N := 2) rfl ?_); refine box_event ?hg (N := 2) ?hd (cs := #[.int .i64 a0_0, .int .i64 a0_1, .int .i64 a0_2]) (t := 36) ?hr ?_; (case hd => rfl); (case hg => rfl); (case hr => first | (go_simp; done)|(go_simp; rfl)|(go_simp; rw [show ∀ x : Int, IntKind.u32.wrap (IntKind.u8.wrap x) = x % 256 from fun x => (by show (x % 256) % 4294967296 = x % 256; omega)])); intro gb360 hg w4 hbox hb; have BK360 := zMk (hbox); have GW360 := zMk ((by rw [hg]; exact (zBs (by exact uT HB.out)) : w.heap.size ≤ gb360)); have GE360 := zMk ((by rw [hg]; exact (zBs (by exact uT HB.out)) : w.heap.size ≤ gb360)); have IGE360 := ownGe GE360.out; replace HB := zMk (zBt (by exact uT HB.out) hb); clear hb hbox hg)|((with_reducible refine gate_dst (N := 3) rfl ?_); refine box_event ?hg (N := 3) ?hd (cs := #[.int .i64 a1_0, .int .i64 a1_1, .int .i64 a1_2]) (t := 36) ?hr ?_; (case hd => rfl); (case hg => rfl); (case hr => first | (go_simp; done)|(go_simp; rfl)|(go_simp; rw [show ∀ x : Int, IntKind.u32.wrap (IntKind.u8.wrap x) = x % 256 from fun x => (by show (x % 256) % 4294967296 = x % 256; omega)])); intro gb361 hg w5 hbox hb; have BK361 := zMk (hbox); have GW361 := zMk ((by rw [hg]; exact (zBs (by exact uT HB.out)) : w.heap.size ≤ gb361)); have GE361 := zMk ((by rw [hg]; exact (zBs (by exact uT HB.out)) : w.heap.size ≤ gb361)); have IGE361 := ownGe GE361.out; replace HB := zMk (zBt (by exact uT HB.out) hb); have NB360_361 := zMk ((by rw [hg]; exact Nat.ne_of_lt (blk_lt (g := gb360) (o := .cells #[.int .i64 a0_0, .int .i64 a0_1, .int .i64 a0_2] 36 (0, 0)) (by (with_reducible repeat (first |  refine zKn ?_ _|  refine zKd ?_|  refine zKa ?_ _)); exact BK360.out)) : gb360 ≠ gb361)); have NB361_360 := zMk ((by rw [hg]; exact Nat.ne_of_gt (blk_lt (g := gb360) (o := .cells #[.int .i64 a0_0, .int .i64 a0_1, .int .i64 a0_2] 36 (0, 0)) (by (with_reducible repeat (first |  refine zKn ?_ _|  refine zKd ?_|  refine zKa ?_ _)); exact BK360.out)) : gb361 ≠ gb360)); replace BK360 := zMk (zKb (g := gb360) (o := .cells #[.int .i64 a0_0, .int .i64 a0_1, .int .i64 a0_2] 36 (0, 0)) (by (with_reducible repeat (first |  refine zKn ?_ _|  refine zKd ?_|  refine zKa ?_ _)); exact BK360.out) hb); clear hb hbox hg; have hnb6 := NB360_361.out; have hnc6 := NB361_360.out; have hcz7_0 : w5.cell? ⟨gb360, 0, none⟩ = some (.int .i64 a0_0) := (zKc BK360.out 0).trans rfl; have hcz7_1 : w5.cell? ⟨gb360, 1, none⟩ = some (.int .i64 a0_1) := (zKc BK360.out 1).trans rfl; have hcz7_2 : w5.cell? ⟨gb360, 2, none⟩ = some (.int .i64 a0_2) := (zKc BK360.out 2).trans rfl; have hfz7_0 := zKf BK360.out 0; have hfz7_1 := zKf BK360.out 1; have hfz7_2 := zKf BK360.out 2; have hcz8_0 : w5.cell? ⟨gb361, 0, none⟩ = some (.int .i64 a1_0) := (zKc BK361.out 0).trans rfl; have hcz8_1 : w5.cell? ⟨gb361, 1, none⟩ = some (.int .i64 a1_1) := (zKc BK361.out 1).trans rfl; have hcz8_2 : w5.cell? ⟨gb361, 2, none⟩ = some (.int .i64 a1_2) := (zKc BK361.out 2).trans rfl; have hfz8_0 := zKf BK361.out 0; have hfz8_1 := zKf BK361.out 1; have hfz8_2 := zKf BK361.out 2))
    go_ret
    exact ⟨by first | rfl | (simp [errW_none, errW_some] <;> rfl) | (simp [*, errW_none, errW_some] <;> rfl), by exact uT HB.out⟩
  · rw [if_neg c3] at H
    have c3b0 : decide (a0_0 < a1_0) = false := decide_eq_false c3
    clear c3
    by_cases c9 : a0_0 = a1_0
    · rw [if_pos c9] at H
      have c9b0 : (a0_0 == a1_0) = true := beq_iff_eq.mpr c9
      have c9b1 : (a0_0 != a1_0) = false := bne_eq_false_iff_eq.mpr c9
      clear c9
      obtain rfl := zOi H
      go_enter Try.func37, Try.ntmps37
      go_wp2_with (first | ((with_reducible refine gate_dst (N := 2) rfl ?_); refine box_event ?hg (N := 2) ?hd (cs := #[.int .i64 a0_0, .int .i64 a0_1, .int .i64 a0_2]) (t := 36) ?hr ?_; (case hd => rfl); (case hg => rfl); (case hr => first | (go_simp; done)|(go_simp; rfl)|(go_simp; rw [show ∀ x : Int, IntKind.u32.wrap (IntKind.u8.wrap x) = x % 256 from fun x => (by show (x % 256) % 4294967296 = x % 256; omega)])); intro gb360 hg w10 hbox hb; have BK360 := zMk (hbox); have GW360 := zMk ((by rw [hg]; exact (zBs (by exact uT HB.out)) : w.heap.size ≤ gb360)); have GE360 := zMk ((by rw [hg]; exact (zBs (by exact uT HB.out)) : w.heap.size ≤ gb360)); have IGE360 := ownGe GE360.out; replace HB := zMk (zBt (by exact uT HB.out) hb); clear hb hbox hg)|((with_reducible refine gate_dst (N := 3) rfl ?_); refine box_event ?hg (N := 3) ?hd (cs := #[.int .i64 a1_0, .int .i64 a1_1, .int .i64 a1_2]) (t := 36) ?hr ?_; (case hd => rfl); (case hg => rfl); (case hr => first | (go_simp; done)|(go_simp; rfl)|(go_simp; rw [show ∀ x : Int, IntKind.u32.wrap (IntKind.u8.wrap x) = x % 256 from fun x => (by show (x % 256) % 4294967296 = x % 256; omega)])); intro gb361 hg w11 hbox hb; have BK361 := zMk (hbox); have GW361 := zMk ((by rw [hg]; exact (zBs (by exact uT HB.out)) : w.heap.size ≤ gb361)); have GE361 := zMk ((by rw [hg]; exact (zBs (by exact uT HB.out)) : w.heap.size ≤ gb361)); have IGE361 := ownGe GE361.out; replace HB := zMk (zBt (by exact uT HB.out) hb); have NB360_361 := zMk ((by rw [hg]; exact Nat.ne_of_lt (blk_lt (g := gb360) (o := .cells #[.int .i64 a0_0, .int .i64 a0_1, .int .i64 a0_2] 36 (0, 0)) (by (with_reducible repeat (first |  refine zKn ?_ _|  refine zKd ?_|  refine zKa ?_ _)); exact BK360.out)) : gb360 ≠ gb361)); have NB361_360 := zMk ((by rw [hg]; exact Nat.ne_of_gt (blk_lt (g := gb360) (o := .cells #[.int .i64 a0_0, .int .i64 a0_1, .int .i64 a0_2] 36 (0, 0)) (by (with_reducible repeat (first |  refine zKn ?_ _|  refine zKd ?_|  refine zKa ?_ _)); exact BK360.out)) : gb361 ≠ gb360)); replace BK360 := zMk (zKb (g := gb360) (o := .cells #[.int .i64 a0_0, .int .i64 a0_1, .int .i64 a0_2] 36 (0, 0)) (by (with_reducible repeat (first |  refine zKn ?_ _|  refine zKd ?_|  refine zKa ?_ _)); exact BK360.out) hb); clear hb hbox hg; have hnb12 := NB360_361.out; have hnc12 := NB361_360.out; have hcz13_0 : w11.cell? ⟨gb360, 0, none⟩ = some (.int .i64 a0_0) := (zKc BK360.out 0).trans rfl; have hcz13_1 : w11.cell? ⟨gb360, 1, none⟩ = some (.int .i64 a0_1) := (zKc BK360.out 1).trans rfl; have hcz13_2 : w11.cell? ⟨gb360, 2, none⟩ = some (.int .i64 a0_2) := (zKc BK360.out 2).trans rfl; have hfz13_0 := zKf BK360.out 0; have hfz13_1 := zKf BK360.out 1; have hfz13_2 := zKf BK360.out 2; have hcz14_0 : w11.cell? ⟨gb361, 0, none⟩ = some (.int .i64 a1_0) := (zKc BK361.out 0).trans rfl; have hcz14_1 : w11.cell? ⟨gb361, 1, none⟩ = some (.int .i64 a1_1) := (zKc BK361.out 1).trans rfl; have hcz14_2 : w11.cell? ⟨gb361, 2, none⟩ = some (.int .i64 a1_2) := (zKc BK361.out 2).trans rfl; have hfz14_0 := zKf BK361.out 0; have hfz14_1 := zKf BK361.out 1; have hfz14_2 := zKf BK361.out 2))
      go_ret
      exact ⟨by first | rfl | (simp [errW_none, errW_some] <;> rfl) | (simp [*, errW_none, errW_some] <;> rfl), by exact uT HB.out⟩
    · rw [if_neg c9] at H
      have c9b0 : (a0_0 == a1_0) = false := beq_eq_false_iff_ne.mpr c9
      have c9b1 : (a0_0 != a1_0) = true := bne_iff_ne.mpr c9
      obtain rfl := zOi H
      go_enter Try.func37, Try.ntmps37
      go_wp2_with (first | ((with_reducible refine gate_dst (N := 2) rfl ?_); refine box_event ?hg (N := 2) ?hd (cs := #[.int .i64 a0_0, .int .i64 a0_1, .int .i64 a0_2]) (t := 36) ?hr ?_; (case hd => rfl); (case hg => rfl); (case hr => first | (go_simp; done)|(go_simp; rfl)|(go_simp; rw [show ∀ x : Int, IntKind.u32.wrap (IntKind.u8.wrap x) = x % 256 from fun x => (by show (x % 256) % 4294967296 = x % 256; omega)])); intro gb360 hg w15 hbox hb; have BK360 := zMk (hbox); have GW360 := zMk ((by rw [hg]; exact (zBs (by exact uT HB.out)) : w.heap.size ≤ gb360)); have GE360 := zMk ((by rw [hg]; exact (zBs (by exact uT HB.out)) : w.heap.size ≤ gb360)); have IGE360 := ownGe GE360.out; replace HB := zMk (zBt (by exact uT HB.out) hb); clear hb hbox hg)|((with_reducible refine gate_dst (N := 3) rfl ?_); refine box_event ?hg (N := 3) ?hd (cs := #[.int .i64 a1_0, .int .i64 a1_1, .int .i64 a1_2]) (t := 36) ?hr ?_; (case hd => rfl); (case hg => rfl); (case hr => first | (go_simp; done)|(go_simp; rfl)|(go_simp; rw [show ∀ x : Int, IntKind.u32.wrap (IntKind.u8.wrap x) = x % 256 from fun x => (by show (x % 256) % 4294967296 = x % 256; omega)])); intro gb361 hg w16 hbox hb; have BK361 := zMk (hbox); have GW361 := zMk ((by rw [hg]; exact (zBs (by exact uT HB.out)) : w.heap.size ≤ gb361)); have GE361 := zMk ((by rw [hg]; exact (zBs (by exact uT HB.out)) : w.heap.size ≤ gb361)); have IGE361 := ownGe GE361.out; replace HB := zMk (zBt (by exact uT HB.out) hb); have NB360_361 := zMk ((by rw [hg]; exact Nat.ne_of_lt (blk_lt (g := gb360) (o := .cells #[.int .i64 a0_0, .int .i64 a0_1, .int .i64 a0_2] 36 (0, 0)) (by (with_reducible repeat (first |  refine zKn ?_ _|  refine zKd ?_|  refine zKa ?_ _)); exact BK360.out)) : gb360 ≠ gb361)); have NB361_360 := zMk ((by rw [hg]; exact Nat.ne_of_gt (blk_lt (g := gb360) (o := .cells #[.int .i64 a0_0, .int .i64 a0_1, .int .i64 a0_2] 36 (0, 0)) (by (with_reducible repeat (first |  refine zKn ?_ _|  refine zKd ?_|  refine zKa ?_ _)); exact BK360.out)) : gb361 ≠ gb360)); replace BK360 := zMk (zKb (g := gb360) (o := .cells #[.int .i64 a0_0, .int .i64 a0_1, .int .i64 a0_2] 36 (0, 0)) (by (with_reducible repeat (first |  refine zKn ?_ _|  refine zKd ?_|  refine zKa ?_ _)); exact BK360.out) hb); clear hb hbox hg; have hnb17 := NB360_361.out; have hnc17 := NB361_360.out; have hcz18_0 : w16.cell? ⟨gb360, 0, none⟩ = some (.int .i64 a0_0) := (zKc BK360.out 0).trans rfl; have hcz18_1 : w16.cell? ⟨gb360, 1, none⟩ = some (.int .i64 a0_1) := (zKc BK360.out 1).trans rfl; have hcz18_2 : w16.cell? ⟨gb360, 2, none⟩ = some (.int .i64 a0_2) := (zKc BK360.out 2).trans rfl; have hfz18_0 := zKf BK360.out 0; have hfz18_1 := zKf BK360.out 1; have hfz18_2 := zKf BK360.out 2; have hcz19_0 : w16.cell? ⟨gb361, 0, none⟩ = some (.int .i64 a1_0) := (zKc BK361.out 0).trans rfl; have hcz19_1 : w16.cell? ⟨gb361, 1, none⟩ = some (.int .i64 a1_1) := (zKc BK361.out 1).trans rfl; have hcz19_2 : w16.cell? ⟨gb361, 2, none⟩ = some (.int .i64 a1_2) := (zKc BK361.out 2).trans rfl; have hfz19_0 := zKf BK361.out 0; have hfz19_1 := zKf BK361.out 1; have hfz19_2 := zKf BK361.out 2))
      go_ret
      exact ⟨by first | rfl | (simp [errW_none, errW_some] <;> rfl) | (simp [*, errW_none, errW_some] <;> rfl), by exact uT HB.out⟩


mutual
def filigreeref04_Right.l0 : Nat → Int → Int → List (S36) → Option (Int)
  | 0, _, _, _ => none
  | k + 1, x4, x378000, x378001 => if x4 < (x378001.length : Int) then (if 0 ≤ x4 then ((filigreeref04_edge.f k x378000 ((rd_T36 x378001 x4).f0) ((rd_T36 x378001 x4).f1) ((rd_T36 x378001 x4).f2)).bind fun t380 => (if t380 = 0 then (if ((rd_T36 x378001 x4).f0) > ((rd_T36 x378001 x4).f1) then (some 1) else (if x4 > 0 then (if 0 ≤ (wrap64 (x4 - 1)) then (if (wrap64 (x4 - 1)) < (x378001.length : Int) then ((filigreeref04_below.f ((rd_T36 x378001 (wrap64 (x4 - 1))).f0) ((rd_T36 x378001 (wrap64 (x4 - 1))).f1) ((rd_T36 x378001 (wrap64 (x4 - 1))).f2) ((rd_T36 x378001 x4).f0) ((rd_T36 x378001 x4).f1) ((rd_T36 x378001 x4).f2)).bind fun t385 => (filigreeref04_Right.j1 k x4 (!t385) x378000 x378001)) else (none)) else (none)) else (filigreeref04_Right.j1 k x4 false x378000 x378001))) else (some t380))) else (none)) else (some 0)
def filigreeref04_Right.j1 : Nat → Int → Bool → Int → List (S36) → Option (Int)
  | 0, _, _, _, _ => none
  | k + 1, x4, x62, x378000, x378001 => if x62 = true then (if 0 ≤ x4 then (if x4 < (x378001.length : Int) then (if 0 ≤ (wrap64 (x4 - 1)) then (if (wrap64 (x4 - 1)) < (x378001.length : Int) then ((filigreeref04_below.f ((rd_T36 x378001 x4).f0) ((rd_T36 x378001 x4).f1) ((rd_T36 x378001 x4).f2) ((rd_T36 x378001 (wrap64 (x4 - 1))).f0) ((rd_T36 x378001 (wrap64 (x4 - 1))).f1) ((rd_T36 x378001 (wrap64 (x4 - 1))).f2)).bind fun t388 => (if t388 = true then (some 1) else (some 7))) else (none)) else (none)) else (none)) else (none)) else (filigreeref04_Right.l0 k (wrap64 (x4 + 1)) x378000 x378001)
end
def filigreeref04_Right.f (k : Nat) (a0_0 : Int) (l0_1 : List (S36)) : Option (Int) := (filigreeref04_many.f a0_0 (l0_1.length : Int)).bind fun t378 => (if t378 = 0 then (filigreeref04_Right.l0 k 0 a0_0 l0_1) else (some t378))
def filigreeref04_Right.T7 : Bool × List (List Nat × List Nat) := (true, [([], []), ([0], [0]), ([], []), ([2], [2]), ([], []), ([3, 4], [3, 4]), ([5], [5]), ([1, 6], [1, 6]), ([7, 7, 0, 1, 2, 3, 4, 5, 6, 7], [7])])
def filigreeref04_Right.B7 : List Nat := [0, 1, 0, 4, 0, 28, 60, 127, 255]
theorem filigreeref04_Right.tab7 : rtab .any (opsOf Try.f12 7) = filigreeref04_Right.T7 := by kernel_rfl
theorem filigreeref04_Right.bits7 : waitsOk filigreeref04_Right.T7.2 filigreeref04_Right.B7 = true := by kernel_rfl
def filigreeref04_Right.T10 : Bool × List (List Nat × List Nat) := (true, [([], []), ([0], [0]), ([], []), ([1, 2], [1, 2]), ([3], [3]), ([4], [4]), ([], []), ([6], [6]), ([], []), ([7, 8], [7, 8]), ([9], [9]), ([10], [10]), ([5, 11], [5, 11])])
def filigreeref04_Right.B10 : List Nat := [0, 1, 0, 7, 15, 31, 0, 64, 0, 448, 960, 1984, 4095]
theorem filigreeref04_Right.tab10 : rtab .any (opsOf Try.f12 10) = filigreeref04_Right.T10 := by kernel_rfl
theorem filigreeref04_Right.bits10 : waitsOk filigreeref04_Right.T10.2 filigreeref04_Right.B10 = true := by kernel_rfl
def filigreeref04_Right.T12 : Bool × List (List Nat × List Nat) := (true, [([], []), ([0], [0]), ([1], [1]), ([2], [2]), ([3, 2], [2, 3]), ([2], [2]), ([5, 2], [2, 5]), ([4, 6, 2], [2, 4, 6]), ([7, 2], [2, 7]), ([2], [2]), ([9, 2], [2, 9]), ([2], [2]), ([10, 11, 2], [2, 10, 11]), ([12, 2], [2, 12]), ([8, 13, 2, 2], [2, 8, 13]), ([14, 2], [2, 14]), ([2, 15], [2, 15])])
def filigreeref04_Right.B12 : List Nat := [0, 1, 3, 7, 15, 7, 39, 127, 255, 7, 519, 7, 3591, 7687, 16383, 32767, 65535]
theorem filigreeref04_Right.tab12 : rtab .any (opsOf Try.f12 12) = filigreeref04_Right.T12 := by kernel_rfl
theorem filigreeref04_Right.bits12 : waitsOk filigreeref04_Right.T12.2 filigreeref04_Right.B12 = true := by kernel_rfl
def filigreeref04_Right.T13 : Bool × List (List Nat × List Nat) := (true, [([], []), ([0], [0]), ([], []), ([1, 2], [1, 2]), ([3], [3]), ([], []), ([5], [5]), ([], []), ([7], [7]), ([6, 8], [6, 8]), ([9], [9]), ([4, 10], [4, 10])])
def filigreeref04_Right.B13 : List Nat := [0, 1, 0, 7, 15, 0, 32, 0, 128, 480, 992, 2047]
theorem filigreeref04_Right.tab13 : rtab .any (opsOf Try.f12 13) = filigreeref04_Right.T13 := by kernel_rfl
theorem filigreeref04_Right.bits13 : waitsOk filigreeref04_Right.T13.2 filigreeref04_Right.B13 = true := by kernel_rfl
theorem filigreeref04_Right.calls (k : Nat) (a0_0 : Int) (A0_1 : Option Addr) (c0_1 : Nat) (l0_1 : List (S36)) (r : Int) (w : World) (hr0_1 : Kd.C k36 w A0_1 l0_1.length l0_1) (hc0_1 : l0_1.length ≤ c0_1) (h : filigreeref04_Right.f k a0_0 l0_1 = some r) :
    Calls Try.prog 12 #[.agg #[.int .i64 a0_0, .slice A0_1 l0_1.length c0_1]] w fun e w' => e = .returned (.int .i64 r) ∧ Below w.heap.size w w' := by
  have hu24 := Try.underlying24
  have hu36 := Try.underlying36
  have HR0_1 := zMk hr0_1
  have HC0_1 := zMk hc0_1
  clear hr0_1 hc0_1
  have HB := zMk (Below.refl w.heap.size w)
  have H : ((filigreeref04_many.f a0_0 (l0_1.length : Int)).bind fun t378 => (if t378 = 0 then (filigreeref04_Right.l0 k 0 a0_0 l0_1) else (some t378))) = some r := h
  clear h
  replace H := bnd H
  obtain ⟨t378, A20, H⟩ := H
  have A2 := zMk A20
  clear A20
  by_cases c3 : t378 = 0
  · rw [if_pos c3] at H
    have c3b0 : (t378 == 0) = true := beq_iff_eq.mpr c3
    have c3b1 : (t378 != 0) = false := bne_eq_false_iff_eq.mpr c3
    clear c3
    have H' := zMk H
    clear H
    go_enter Try.func12, Try.ntmps12
    go_wp2_with (first | ((with_reducible refine gate_dst (N := 1) rfl ?_); refine box_event ?hg (N := 1) ?hd (cs := #[.int .i64 a0_0, .slice A0_1 l0_1.length c0_1]) (t := 24) ?hr ?_; (case hd => rfl); (case hg => rfl); (case hr => first | (go_simp; done)|(go_simp; rfl)|(go_simp; rw [show ∀ x : Int, IntKind.u32.wrap (IntKind.u8.wrap x) = x % 256 from fun x => (by show (x % 256) % 4294967296 = x % 256; omega)])); intro gb377 hg w4 hbox hb; have BK377 := zMk (hbox); have GW377 := zMk ((by rw [hg]; exact (zBs (by exact uT HB.out)) : w.heap.size ≤ gb377)); have GE377 := zMk ((by rw [hg]; exact (zBs (by exact uT HB.out)) : w.heap.size ≤ gb377)); have IGE377 := ownGe GE377.out; replace HB := zMk (zBt (by exact uT HB.out) hb); clear hb hbox hg; have hcz5_0 : w4.cell? ⟨gb377, 0, none⟩ = some (.int .i64 a0_0) := (zKc BK377.out 0).trans rfl; have hcz5_1 : w4.cell? ⟨gb377, 1, none⟩ = some (.slice A0_1 l0_1.length c0_1) := (zKc BK377.out 1).trans rfl; have hfz5_0 := zKf BK377.out 0; have hfz5_1 := zKf BK377.out 1)|((with_reducible refine gate_callee (f := 35) rfl ?_); refine goesL_ (some 11) rfl rfl Try.func35 (by kernel_rfl) rfl #[.int .i64 a0_0, .int .i64 (l0_1.length : Int)] rfl (by (try simp only [zMa, zMc, zMn]); first |  done|  rfl|  (simp only [zLd, zLt]; rfl)) ?_; (with_reducible refine (filigreeref04_many.calls a0_0 (l0_1.length : Int) t378 _ A2.out).mono ?_); rintro e w' ⟨rfl, ⟨nd, rfl⟩⟩; refine ⟨_, rfl, ?_⟩))
    go_loopg [4] k (fun kq v4 w' => ∃ (x4_1 : Int), v4 = .int .i64 x4_1 ∧ Aside0 (filigreeref04_Right.l0 kq x4_1 a0_0 l0_1 = some r) ∧ Aside0 (kq ≤ k) ∧ Aside0 (w'.heap[gb377]? = some (.cells #[.int .i64 a0_0, (.slice A0_1 l0_1.length c0_1)] 24 (0, 0))) ∧ Aside0 (Below w.heap.size w w'))
    case atStart => exact ⟨(0), (by first | rfl | (simp; done) | (simp [*]; done)), H', ⟨Nat.le_refl _⟩, ⟨by (with_reducible repeat (first | refine zKn ?_ _ | refine zKd ?_ | refine zKa ?_ _)); exact BK377.out⟩, ⟨by exact uT HB.out⟩⟩
    clear H'
    obtain ⟨x4_1, rfl, HA, HK1, BK377, HB⟩ := hrel
    rcases gk with _ | k1
    · exact absurd HA.out (by simp [filigreeref04_Right.l0])
    have H := HA.out
    clear HA
    simp only [filigreeref04_Right.l0] at H
    by_cases c6 : x4_1 < (l0_1.length : Int)
    · rw [if_pos c6] at H
      have c6b0 : decide (x4_1 < (l0_1.length : Int)) = true := decide_eq_true c6
      clear c6
      by_cases c7 : 0 ≤ x4_1
      rotate_left
      · rw [if_neg c7] at H; exact absurd H (by simp)
      rw [if_pos c7] at H
      have c7b0 : decide (0 ≤ x4_1) = true := decide_eq_true c7
      clear c7
      replace H := bnd H
      obtain ⟨t380, A80, H⟩ := H
      have A8 := zMk A80
      clear A80
      by_cases c9 : t380 = 0
      · rw [if_pos c9] at H
        have c9b0 : (t380 == 0) = true := beq_iff_eq.mpr c9
        have c9b1 : (t380 != 0) = false := bne_eq_false_iff_eq.mpr c9
        clear c9
        by_cases c10 : ((rd_T36 l0_1 x4_1).f0) > ((rd_T36 l0_1 x4_1).f1)
        · rw [if_pos c10] at H
          have c10b0 : decide (((rd_T36 l0_1 x4_1).f1) < ((rd_T36 l0_1 x4_1).f0)) = true := decide_eq_true c10
          clear c10
          obtain rfl := zOi H
          have hcz11_0 : wr.cell? ⟨gb377, 0, none⟩ = some (.int .i64 a0_0) := (zKc BK377.out 0).trans rfl
          have hcz11_1 : wr.cell? ⟨gb377, 1, none⟩ = some (.slice A0_1 l0_1.length c0_1) := (zKc BK377.out 1).trans rfl
          have hfz11_0 := zKf BK377.out 0
          have hfz11_1 := zKf BK377.out 1
          try go_wp2
          replace BK377 := zMk (zKd BK377.out)
          replace HB := zMk (zBd HB.out)
          have p379 : 0 ≤ (x4_1 : Int) := of_decide_eq_true (by assumption)
          have q379 : x4_1 < (l0_1.length : Int) := of_decide_eq_true (by assumption)
          obtain ⟨ad379, e379, hx379_0, hx379_1, hx379_2⟩ := at_T36 HR0_1.out x4_1 p379 q379
          have hw379_2 := hx379_2
          have hw379_1 := hx379_1
          have hw379_0 := hx379_0
          cases e379
          replace hx379_0 := (HB.out.cell (World.block_lt_of_cell? w _ hx379_0)).trans hx379_0
          replace hx379_1 := (HB.out.cell (World.block_lt_of_cell? w _ hx379_1)).trans hx379_1
          replace hx379_2 := (HB.out.cell (World.block_lt_of_cell? w _ hx379_2)).trans hx379_2
          replace p379 := eq_true p379
          replace q379 := eq_true q379
          refine start_ (n := 9) (S := fun w' => w'.cell? ⟨gb377, 0, none⟩ = some (.int .i64 a0_0) ∧ w'.cell? ⟨gb377, 1, none⟩ = some (.slice (some ad379) l0_1.length c0_1) ∧ w'.cell? (ad379.add ((x4_1).toNat * 3)) = some (.int .i64 ((rd_T36 l0_1 x4_1).f0)) ∧ w'.cell? ⟨(ad379.add ((x4_1).toNat * 3)).block, (ad379.add ((x4_1).toNat * 3)).off + 1, none⟩ = some (.int .i64 ((rd_T36 l0_1 x4_1).f1)) ∧ w'.cell? ⟨(ad379.add ((x4_1).toNat * 3)).block, (ad379.add ((x4_1).toNat * 3)).off + 2, none⟩ = some (.int .i64 ((rd_T36 l0_1 x4_1).f2))) (ds := []) #[false, false, false, false, false, false, false, false, false] (by kernel_rfl) rfl rfl ⟨(zKc BK377.out 0).trans rfl, (zKc BK377.out 1).trans rfl, ((HB.out.cell (World.block_lt_of_cell? w _ hw379_0)).trans hw379_0), ((HB.out.cell (World.block_lt_of_cell? w _ hw379_1)).trans hw379_1), ((HB.out.cell (World.block_lt_of_cell? w _ hw379_2)).trans hw379_2)⟩ (fun hHeld => ?_); refine with_tabW filigreeref04_Right.tab7 filigreeref04_Right.bits7 (fun HT_ HW_ => ?_)
          generalize wr.drew = w12 at BK377 HB hx379_0 hx379_1 hx379_2 hHeld ⊢
          refine pure_ (i := 0) (N := some 22) (v := ?_) (a' := ?_) #[true, false, false, false, false, false, false, false, false] rfl rfl (any_of HT_.out (by kernel_rfl)) (fun _ _ _ h => h) (Or.inl ⟨by rfl, ?_⟩) ?_ ?_
          rotate_left
          · intro w'
            go_simp
            with_reducible rfl
          rotate_left
          · simp only [Act.put, zSa, zSb, zSc, i64_w, i32_w]
            rfl
          refine pure_ (i := 2) (N := some 24) (v := ?_) (a' := ?_) #[true, false, true, false, false, false, false, false, false] rfl rfl (any_of HT_.out (by kernel_rfl)) (fun _ _ _ h => h) (Or.inl ⟨by rfl, ?_⟩) ?_ ?_
          rotate_left
          · intro w'
            go_simp
            with_reducible rfl
          rotate_left
          · simp only [Act.put, zSa, zSb, zSc, i64_w, i32_w]
            rfl
          refine pure_ (i := 4) (N := some 26) (v := ?_) (a' := ?_) #[true, false, true, false, true, false, false, false, false] rfl rfl (any_of HT_.out (by kernel_rfl)) (fun _ _ _ h => h) (Or.inl ⟨by rfl, ?_⟩) ?_ ?_
          rotate_left
          · intro w'
            go_simp
            with_reducible rfl
          rotate_left
          · simp only [Act.put, zSa, zSb, zSc, i64_w, i32_w]
            rfl
          refine take_ (i := 1) (N := some 23) (v := ?_) (a' := ?_) #[true, true, true, false, true, false, false, false, false] rfl rfl (take_ofW HT_.out HW_.out (by kernel_rfl)) (fun _ _ _ h => h) (Or.inl ⟨by rfl, ?_⟩) hHeld ?_ ?_
          rotate_left
          · rintro w' ⟨s0, s1, s2, s3, s4⟩
            go_simp
            with_reducible rfl
          rotate_left
          · simp only [Act.put, zSa, zSb, zSc, i64_w, i32_w]
            rfl
          refine take_ (i := 3) (N := some 25) (v := ?_) (a' := ?_) #[true, true, true, true, true, false, false, false, false] rfl rfl (take_ofW HT_.out HW_.out (by kernel_rfl)) (fun _ _ _ h => h) (Or.inl ⟨by rfl, ?_⟩) hHeld ?_ ?_
          rotate_left
          · rintro w' ⟨s0, s1, s2, s3, s4⟩
            go_simp
            with_reducible rfl
          rotate_left
          · simp only [Act.put, zSa, zSb, zSc, i64_w, i32_w]
            rfl
          refine pure_ (i := 5) (N := some 27) (v := ?_) (a' := ?_) #[true, true, true, true, true, true, false, false, false] rfl rfl (any_of HT_.out (by kernel_rfl)) (fun _ _ _ h => h) (Or.inl ⟨by rfl, ?_⟩) ?_ ?_
          rotate_left
          · intro w'
            go_simp
            with_reducible rfl
          rotate_left
          · simp only [Act.put, zSa, zSb, zSc, i64_w, i32_w]
            rfl
          refine take_ (i := 6) (N := some 28) (v := ?_) (a' := ?_) #[true, true, true, true, true, true, true, false, false] rfl rfl (take_ofW HT_.out HW_.out (by kernel_rfl)) (fun _ _ _ h => h) (Or.inl ⟨by rfl, ?_⟩) hHeld ?_ ?_
          rotate_left
          · rintro w' ⟨s0, s1, s2, s3, s4⟩
            go_simp
            with_reducible rfl
          rotate_left
          · simp only [Act.put, zSa, zSb, zSc, i64_w, i32_w]
            rfl
          refine one_ (i := 7) (N := some 29) #[true, true, true, true, true, true, true, true, false] rfl rfl (one_of HT_.out (by kernel_rfl)) (by decide) (fun K hK => ?_)
          refine goes_ Try.func36 (by kernel_rfl) rfl #[.int .i64 a0_0, .agg #[.int .i64 ((rd_T36 l0_1 x4_1).f0), .int .i64 ((rd_T36 l0_1 x4_1).f1), .int .i64 ((rd_T36 l0_1 x4_1).f2)]] (by rfl) rfl rfl (by (try simp only [zMa, zMc, zMn]); first | done | rfl | (simp only [zLd, zLt]; rfl)) ?_
          with_reducible refine (filigreeref04_edge.calls k1 a0_0 ((rd_T36 l0_1 x4_1).f0) ((rd_T36 l0_1 x4_1).f1) ((rd_T36 l0_1 x4_1).f2) t380 _ A8.out).mono ?_
          rintro e w13 ⟨rfl, hb⟩
          refine ⟨_, rfl, ?_⟩
          replace BK377 := zMk (zKb (g := gb377) (o := .cells #[.int .i64 a0_0, .slice (some ad379) l0_1.length c0_1] 24 (0, 0)) (by (with_reducible repeat (first | refine zKn ?_ _ | refine zKd ?_ | refine zKa ?_ _)); exact BK377.out) hb)
          replace HB := zMk (zBt (by exact uT HB.out) hb)
          refine hK.out _ _ ⟨(zKc BK377.out 0).trans rfl, (zKc BK377.out 1).trans rfl, ((HB.out.cell (World.block_lt_of_cell? w _ hw379_0)).trans hw379_0), ((HB.out.cell (World.block_lt_of_cell? w _ hw379_1)).trans hw379_1), ((HB.out.cell (World.block_lt_of_cell? w _ hw379_2)).trans hw379_2)⟩ (fun hHeld => ?_)
          clear hK K
          refine norm_ (a' := ?_) ?_ ?_
          rotate_left
          · show Act.put _ (some 29) _ = _
            simp only [Act.put, zSa, zSb, zSc, i64_w, i32_w]
            rfl
          refine pure_ (i := 8) (N := some 5) (v := ?_) (a' := ?_) #[true, true, true, true, true, true, true, true, true] rfl rfl (any_of HT_.out (by kernel_rfl)) (fun _ _ _ h => h) (Or.inl ⟨by rfl, ?_⟩) ?_ ?_
          rotate_left
          · intro w'
            go_simp
            with_reducible rfl
          rotate_left
          · simp only [Act.put, zSa, zSb, zSc, i64_w, i32_w]
            rfl
          refine done_ (done_of HT_.out (by kernel_rfl)) ?_
          try go_wp2
          replace BK377 := zMk (zKd BK377.out)
          replace HB := zMk (zBd HB.out)
          have p381 : 0 ≤ (x4_1 : Int) := of_decide_eq_true (by assumption)
          have q381 : x4_1 < (l0_1.length : Int) := of_decide_eq_true (by assumption)
          obtain ⟨ad381, e381, hx381_0, hx381_1, hx381_2⟩ := at_T36 HR0_1.out x4_1 p381 q381
          have hw381_2 := hx381_2
          have hw381_1 := hx381_1
          have hw381_0 := hx381_0
          obtain rfl : ad379 = ad381 := (by injection e381)
          replace hx381_0 := (HB.out.cell (World.block_lt_of_cell? w _ hx381_0)).trans hx381_0
          replace hx381_1 := (HB.out.cell (World.block_lt_of_cell? w _ hx381_1)).trans hx381_1
          replace hx381_2 := (HB.out.cell (World.block_lt_of_cell? w _ hx381_2)).trans hx381_2
          replace p381 := eq_true p381
          replace q381 := eq_true q381
          have p382 : 0 ≤ (x4_1 : Int) := of_decide_eq_true (by assumption)
          have q382 : x4_1 < (l0_1.length : Int) := of_decide_eq_true (by assumption)
          obtain ⟨ad382, e382, hx382_0, hx382_1, hx382_2⟩ := at_T36 HR0_1.out x4_1 p382 q382
          have hw382_2 := hx382_2
          have hw382_1 := hx382_1
          have hw382_0 := hx382_0
          obtain rfl : ad379 = ad382 := (by injection e382)
          replace hx382_0 := (HB.out.cell (World.block_lt_of_cell? w _ hx382_0)).trans hx382_0
          replace hx382_1 := (HB.out.cell (World.block_lt_of_cell? w _ hx382_1)).trans hx382_1
          replace hx382_2 := (HB.out.cell (World.block_lt_of_cell? w _ hx382_2)).trans hx382_2
          replace p382 := eq_true p382
          replace q382 := eq_true q382
          refine start_ (n := 13) (S := fun w' => w'.cell? ⟨gb377, 0, none⟩ = some (.int .i64 a0_0) ∧ w'.cell? ⟨gb377, 1, none⟩ = some (.slice (some ad379) l0_1.length c0_1) ∧ w'.cell? (ad379.add ((x4_1).toNat * 3)) = some (.int .i64 ((rd_T36 l0_1 x4_1).f0)) ∧ w'.cell? ⟨(ad379.add ((x4_1).toNat * 3)).block, (ad379.add ((x4_1).toNat * 3)).off + 1, none⟩ = some (.int .i64 ((rd_T36 l0_1 x4_1).f1)) ∧ w'.cell? ⟨(ad379.add ((x4_1).toNat * 3)).block, (ad379.add ((x4_1).toNat * 3)).off + 2, none⟩ = some (.int .i64 ((rd_T36 l0_1 x4_1).f2)) ∧ w'.cell? (ad379.add ((x4_1).toNat * 3)) = some (.int .i64 ((rd_T36 l0_1 x4_1).f0)) ∧ w'.cell? ⟨(ad379.add ((x4_1).toNat * 3)).block, (ad379.add ((x4_1).toNat * 3)).off + 1, none⟩ = some (.int .i64 ((rd_T36 l0_1 x4_1).f1)) ∧ w'.cell? ⟨(ad379.add ((x4_1).toNat * 3)).block, (ad379.add ((x4_1).toNat * 3)).off + 2, none⟩ = some (.int .i64 ((rd_T36 l0_1 x4_1).f2))) (ds := []) #[false, false, false, false, false, false, false, false, false, false, false, false, false] (by kernel_rfl) rfl rfl ⟨(zKc BK377.out 0).trans rfl, (zKc BK377.out 1).trans rfl, ((HB.out.cell (World.block_lt_of_cell? w _ hw381_0)).trans hw381_0), ((HB.out.cell (World.block_lt_of_cell? w _ hw381_1)).trans hw381_1), ((HB.out.cell (World.block_lt_of_cell? w _ hw381_2)).trans hw381_2), ((HB.out.cell (World.block_lt_of_cell? w _ hw382_0)).trans hw382_0), ((HB.out.cell (World.block_lt_of_cell? w _ hw382_1)).trans hw382_1), ((HB.out.cell (World.block_lt_of_cell? w _ hw382_2)).trans hw382_2)⟩ (fun hHeld => ?_); refine with_tabW filigreeref04_Right.tab10 filigreeref04_Right.bits10 (fun HT_ HW_ => ?_)
          generalize w13.drew = w14 at BK377 HB hx381_0 hx381_1 hx381_2 hx382_0 hx382_1 hx382_2 hHeld ⊢
          refine pure_ (i := 0) (N := some 33) (v := ?_) (a' := ?_) #[true, false, false, false, false, false, false, false, false, false, false, false, false] rfl rfl (any_of HT_.out (by kernel_rfl)) (fun _ _ _ h => h) (Or.inl ⟨by rfl, ?_⟩) ?_ ?_
          rotate_left
          · intro w'
            go_simp
            with_reducible rfl
          rotate_left
          · simp only [Act.put, zSa, zSb, zSc, i64_w, i32_w]
            rfl
          refine pure_ (i := 2) (N := some 35) (v := ?_) (a' := ?_) #[true, false, true, false, false, false, false, false, false, false, false, false, false] rfl rfl (any_of HT_.out (by kernel_rfl)) (fun _ _ _ h => h) (Or.inl ⟨by rfl, ?_⟩) ?_ ?_
          rotate_left
          · intro w'
            go_simp
            with_reducible rfl
          rotate_left
          · simp only [Act.put, zSa, zSb, zSc, i64_w, i32_w]
            rfl
          refine pure_ (i := 6) (N := some 39) (v := ?_) (a' := ?_) #[true, false, true, false, false, false, true, false, false, false, false, false, false] rfl rfl (any_of HT_.out (by kernel_rfl)) (fun _ _ _ h => h) (Or.inl ⟨by rfl, ?_⟩) ?_ ?_
          rotate_left
          · intro w'
            go_simp
            with_reducible rfl
          rotate_left
          · simp only [Act.put, zSa, zSb, zSc, i64_w, i32_w]
            rfl
          refine pure_ (i := 8) (N := some 41) (v := ?_) (a' := ?_) #[true, false, true, false, false, false, true, false, true, false, false, false, false] rfl rfl (any_of HT_.out (by kernel_rfl)) (fun _ _ _ h => h) (Or.inl ⟨by rfl, ?_⟩) ?_ ?_
          rotate_left
          · intro w'
            go_simp
            with_reducible rfl
          rotate_left
          · simp only [Act.put, zSa, zSb, zSc, i64_w, i32_w]
            rfl
          refine take_ (i := 1) (N := some 34) (v := ?_) (a' := ?_) #[true, true, true, false, false, false, true, false, true, false, false, false, false] rfl rfl (take_ofW HT_.out HW_.out (by kernel_rfl)) (fun _ _ _ h => h) (Or.inl ⟨by rfl, ?_⟩) hHeld ?_ ?_
          rotate_left
          · rintro w' ⟨s0, s1, s2, s3, s4, s5, s6, s7⟩
            go_simp
            with_reducible rfl
          rotate_left
          · simp only [Act.put, zSa, zSb, zSc, i64_w, i32_w]
            rfl
          refine pure_ (i := 3) (N := some 36) (v := ?_) (a' := ?_) #[true, true, true, true, false, false, true, false, true, false, false, false, false] rfl rfl (any_of HT_.out (by kernel_rfl)) (fun _ _ _ h => h) (Or.inl ⟨by rfl, ?_⟩) ?_ ?_
          rotate_left
          · intro w'
            go_simp
            with_reducible rfl
          rotate_left
          · simp only [Act.put, zSa, zSb, zSc, i64_w, i32_w]
            rfl
          refine pure_ (i := 4) (N := some 37) (v := ?_) (a' := ?_) #[true, true, true, true, true, false, true, false, true, false, false, false, false] rfl rfl (any_of HT_.out (by kernel_rfl)) (fun _ _ _ h => h) (Or.inl ⟨by rfl, ?_⟩) ?_ ?_
          rotate_left
          · intro w'
            go_simp
            with_reducible rfl
          rotate_left
          · simp only [Act.put, zSa, zSb, zSc, i64_w, i32_w]
            rfl
          refine take_ (i := 5) (N := some 38) (v := ?_) (a' := ?_) #[true, true, true, true, true, true, true, false, true, false, false, false, false] rfl rfl (take_ofW HT_.out HW_.out (by kernel_rfl)) (fun _ _ _ h => h) (Or.inl ⟨by rfl, ?_⟩) hHeld ?_ ?_
          rotate_left
          · rintro w' ⟨s0, s1, s2, s3, s4, s5, s6, s7⟩
            go_simp
            with_reducible rfl
          rotate_left
          · simp only [Act.put, zSa, zSb, zSc, i64_w, i32_w]
            rfl
          refine take_ (i := 7) (N := some 40) (v := ?_) (a' := ?_) #[true, true, true, true, true, true, true, true, true, false, false, false, false] rfl rfl (take_ofW HT_.out HW_.out (by kernel_rfl)) (fun _ _ _ h => h) (Or.inl ⟨by rfl, ?_⟩) hHeld ?_ ?_
          rotate_left
          · rintro w' ⟨s0, s1, s2, s3, s4, s5, s6, s7⟩
            go_simp
            with_reducible rfl
          rotate_left
          · simp only [Act.put, zSa, zSb, zSc, i64_w, i32_w]
            rfl
          refine pure_ (i := 9) (N := some 42) (v := ?_) (a' := ?_) #[true, true, true, true, true, true, true, true, true, true, false, false, false] rfl rfl (any_of HT_.out (by kernel_rfl)) (fun _ _ _ h => h) (Or.inl ⟨by rfl, ?_⟩) ?_ ?_
          rotate_left
          · intro w'
            go_simp
            with_reducible rfl
          rotate_left
          · simp only [Act.put, zSa, zSb, zSc, i64_w, i32_w]
            rfl
          refine pure_ (i := 10) (N := some 43) (v := ?_) (a' := ?_) #[true, true, true, true, true, true, true, true, true, true, true, false, false] rfl rfl (any_of HT_.out (by kernel_rfl)) (fun _ _ _ h => h) (Or.inl ⟨by rfl, ?_⟩) ?_ ?_
          rotate_left
          · intro w'
            go_simp
            with_reducible rfl
          rotate_left
          · simp only [Act.put, zSa, zSb, zSc, i64_w, i32_w]
            rfl
          refine take_ (i := 11) (N := some 44) (v := ?_) (a' := ?_) #[true, true, true, true, true, true, true, true, true, true, true, true, false] rfl rfl (take_ofW HT_.out HW_.out (by kernel_rfl)) (fun _ _ _ h => h) (Or.inl ⟨by rfl, ?_⟩) hHeld ?_ ?_
          rotate_left
          · rintro w' ⟨s0, s1, s2, s3, s4, s5, s6, s7⟩
            go_simp
            with_reducible rfl
          rotate_left
          · simp only [Act.put, zSa, zSb, zSc, i64_w, i32_w]
            rfl
          refine pure_ (i := 12) (N := some 45) (v := ?_) (a' := ?_) #[true, true, true, true, true, true, true, true, true, true, true, true, true] rfl rfl (any_of HT_.out (by kernel_rfl)) (fun _ _ _ h => h) (Or.inl ⟨by rfl, ?_⟩) ?_ ?_
          rotate_left
          · intro w'
            go_simp
            with_reducible rfl
          rotate_left
          · simp only [Act.put, zSa, zSb, zSc, i64_w, i32_w]
            rfl
          refine done_ (done_of HT_.out (by kernel_rfl)) ?_
          try go_wp2
          go_ret
          exact ⟨by first | rfl | (simp [errW_none, errW_some] <;> rfl) | (simp [*, errW_none, errW_some] <;> rfl), by exact uT HB.out⟩
        · rw [if_neg c10] at H
          have c10b0 : decide (((rd_T36 l0_1 x4_1).f1) < ((rd_T36 l0_1 x4_1).f0)) = false := decide_eq_false c10
          clear c10
          have HC15 := zMk H
          clear H
          have hcz16_0 : wr.cell? ⟨gb377, 0, none⟩ = some (.int .i64 a0_0) := (zKc BK377.out 0).trans rfl
          have hcz16_1 : wr.cell? ⟨gb377, 1, none⟩ = some (.slice A0_1 l0_1.length c0_1) := (zKc BK377.out 1).trans rfl
          have hfz16_0 := zKf BK377.out 0
          have hfz16_1 := zKf BK377.out 1
          try go_wp2
          replace BK377 := zMk (zKd BK377.out)
          replace HB := zMk (zBd HB.out)
          have p379 : 0 ≤ (x4_1 : Int) := of_decide_eq_true (by assumption)
          have q379 : x4_1 < (l0_1.length : Int) := of_decide_eq_true (by assumption)
          obtain ⟨ad379, e379, hx379_0, hx379_1, hx379_2⟩ := at_T36 HR0_1.out x4_1 p379 q379
          have hw379_2 := hx379_2
          have hw379_1 := hx379_1
          have hw379_0 := hx379_0
          cases e379
          replace hx379_0 := (HB.out.cell (World.block_lt_of_cell? w _ hx379_0)).trans hx379_0
          replace hx379_1 := (HB.out.cell (World.block_lt_of_cell? w _ hx379_1)).trans hx379_1
          replace hx379_2 := (HB.out.cell (World.block_lt_of_cell? w _ hx379_2)).trans hx379_2
          replace p379 := eq_true p379
          replace q379 := eq_true q379
          refine start_ (n := 9) (S := fun w' => w'.cell? ⟨gb377, 0, none⟩ = some (.int .i64 a0_0) ∧ w'.cell? ⟨gb377, 1, none⟩ = some (.slice (some ad379) l0_1.length c0_1) ∧ w'.cell? (ad379.add ((x4_1).toNat * 3)) = some (.int .i64 ((rd_T36 l0_1 x4_1).f0)) ∧ w'.cell? ⟨(ad379.add ((x4_1).toNat * 3)).block, (ad379.add ((x4_1).toNat * 3)).off + 1, none⟩ = some (.int .i64 ((rd_T36 l0_1 x4_1).f1)) ∧ w'.cell? ⟨(ad379.add ((x4_1).toNat * 3)).block, (ad379.add ((x4_1).toNat * 3)).off + 2, none⟩ = some (.int .i64 ((rd_T36 l0_1 x4_1).f2))) (ds := []) #[false, false, false, false, false, false, false, false, false] (by kernel_rfl) rfl rfl ⟨(zKc BK377.out 0).trans rfl, (zKc BK377.out 1).trans rfl, ((HB.out.cell (World.block_lt_of_cell? w _ hw379_0)).trans hw379_0), ((HB.out.cell (World.block_lt_of_cell? w _ hw379_1)).trans hw379_1), ((HB.out.cell (World.block_lt_of_cell? w _ hw379_2)).trans hw379_2)⟩ (fun hHeld => ?_); refine with_tabW filigreeref04_Right.tab7 filigreeref04_Right.bits7 (fun HT_ HW_ => ?_)
          generalize wr.drew = w17 at BK377 HB hx379_0 hx379_1 hx379_2 hHeld ⊢
          refine pure_ (i := 0) (N := some 22) (v := ?_) (a' := ?_) #[true, false, false, false, false, false, false, false, false] rfl rfl (any_of HT_.out (by kernel_rfl)) (fun _ _ _ h => h) (Or.inl ⟨by rfl, ?_⟩) ?_ ?_
          rotate_left
          · intro w'
            go_simp
            with_reducible rfl
          rotate_left
          · simp only [Act.put, zSa, zSb, zSc, i64_w, i32_w]
            rfl
          refine pure_ (i := 2) (N := some 24) (v := ?_) (a' := ?_) #[true, false, true, false, false, false, false, false, false] rfl rfl (any_of HT_.out (by kernel_rfl)) (fun _ _ _ h => h) (Or.inl ⟨by rfl, ?_⟩) ?_ ?_
          rotate_left
          · intro w'
            go_simp
            with_reducible rfl
          rotate_left
          · simp only [Act.put, zSa, zSb, zSc, i64_w, i32_w]
            rfl
          refine pure_ (i := 4) (N := some 26) (v := ?_) (a' := ?_) #[true, false, true, false, true, false, false, false, false] rfl rfl (any_of HT_.out (by kernel_rfl)) (fun _ _ _ h => h) (Or.inl ⟨by rfl, ?_⟩) ?_ ?_
          rotate_left
          · intro w'
            go_simp
            with_reducible rfl
          rotate_left
          · simp only [Act.put, zSa, zSb, zSc, i64_w, i32_w]
            rfl
          refine take_ (i := 1) (N := some 23) (v := ?_) (a' := ?_) #[true, true, true, false, true, false, false, false, false] rfl rfl (take_ofW HT_.out HW_.out (by kernel_rfl)) (fun _ _ _ h => h) (Or.inl ⟨by rfl, ?_⟩) hHeld ?_ ?_
          rotate_left
          · rintro w' ⟨s0, s1, s2, s3, s4⟩
            go_simp
            with_reducible rfl
          rotate_left
          · simp only [Act.put, zSa, zSb, zSc, i64_w, i32_w]
            rfl
          refine take_ (i := 3) (N := some 25) (v := ?_) (a' := ?_) #[true, true, true, true, true, false, false, false, false] rfl rfl (take_ofW HT_.out HW_.out (by kernel_rfl)) (fun _ _ _ h => h) (Or.inl ⟨by rfl, ?_⟩) hHeld ?_ ?_
          rotate_left
          · rintro w' ⟨s0, s1, s2, s3, s4⟩
            go_simp
            with_reducible rfl
          rotate_left
          · simp only [Act.put, zSa, zSb, zSc, i64_w, i32_w]
            rfl
          refine pure_ (i := 5) (N := some 27) (v := ?_) (a' := ?_) #[true, true, true, true, true, true, false, false, false] rfl rfl (any_of HT_.out (by kernel_rfl)) (fun _ _ _ h => h) (Or.inl ⟨by rfl, ?_⟩) ?_ ?_
          rotate_left
          · intro w'
            go_simp
            with_reducible rfl
          rotate_left
          · simp only [Act.put, zSa, zSb, zSc, i64_w, i32_w]
            rfl
          refine take_ (i := 6) (N := some 28) (v := ?_) (a' := ?_) #[true, true, true, true, true, true, true, false, false] rfl rfl (take_ofW HT_.out HW_.out (by kernel_rfl)) (fun _ _ _ h => h) (Or.inl ⟨by rfl, ?_⟩) hHeld ?_ ?_
          rotate_left
          · rintro w' ⟨s0, s1, s2, s3, s4⟩
            go_simp
            with_reducible rfl
          rotate_left
          · simp only [Act.put, zSa, zSb, zSc, i64_w, i32_w]
            rfl
          refine one_ (i := 7) (N := some 29) #[true, true, true, true, true, true, true, true, false] rfl rfl (one_of HT_.out (by kernel_rfl)) (by decide) (fun K hK => ?_)
          refine goes_ Try.func36 (by kernel_rfl) rfl #[.int .i64 a0_0, .agg #[.int .i64 ((rd_T36 l0_1 x4_1).f0), .int .i64 ((rd_T36 l0_1 x4_1).f1), .int .i64 ((rd_T36 l0_1 x4_1).f2)]] (by rfl) rfl rfl (by (try simp only [zMa, zMc, zMn]); first | done | rfl | (simp only [zLd, zLt]; rfl)) ?_
          with_reducible refine (filigreeref04_edge.calls k1 a0_0 ((rd_T36 l0_1 x4_1).f0) ((rd_T36 l0_1 x4_1).f1) ((rd_T36 l0_1 x4_1).f2) t380 _ A8.out).mono ?_
          rintro e w18 ⟨rfl, hb⟩
          refine ⟨_, rfl, ?_⟩
          replace BK377 := zMk (zKb (g := gb377) (o := .cells #[.int .i64 a0_0, .slice (some ad379) l0_1.length c0_1] 24 (0, 0)) (by (with_reducible repeat (first | refine zKn ?_ _ | refine zKd ?_ | refine zKa ?_ _)); exact BK377.out) hb)
          replace HB := zMk (zBt (by exact uT HB.out) hb)
          refine hK.out _ _ ⟨(zKc BK377.out 0).trans rfl, (zKc BK377.out 1).trans rfl, ((HB.out.cell (World.block_lt_of_cell? w _ hw379_0)).trans hw379_0), ((HB.out.cell (World.block_lt_of_cell? w _ hw379_1)).trans hw379_1), ((HB.out.cell (World.block_lt_of_cell? w _ hw379_2)).trans hw379_2)⟩ (fun hHeld => ?_)
          clear hK K
          refine norm_ (a' := ?_) ?_ ?_
          rotate_left
          · show Act.put _ (some 29) _ = _
            simp only [Act.put, zSa, zSb, zSc, i64_w, i32_w]
            rfl
          refine pure_ (i := 8) (N := some 5) (v := ?_) (a' := ?_) #[true, true, true, true, true, true, true, true, true] rfl rfl (any_of HT_.out (by kernel_rfl)) (fun _ _ _ h => h) (Or.inl ⟨by rfl, ?_⟩) ?_ ?_
          rotate_left
          · intro w'
            go_simp
            with_reducible rfl
          rotate_left
          · simp only [Act.put, zSa, zSb, zSc, i64_w, i32_w]
            rfl
          refine done_ (done_of HT_.out (by kernel_rfl)) ?_
          try go_wp2
          replace BK377 := zMk (zKd BK377.out)
          replace HB := zMk (zBd HB.out)
          have p381 : 0 ≤ (x4_1 : Int) := of_decide_eq_true (by assumption)
          have q381 : x4_1 < (l0_1.length : Int) := of_decide_eq_true (by assumption)
          obtain ⟨ad381, e381, hx381_0, hx381_1, hx381_2⟩ := at_T36 HR0_1.out x4_1 p381 q381
          have hw381_2 := hx381_2
          have hw381_1 := hx381_1
          have hw381_0 := hx381_0
          obtain rfl : ad379 = ad381 := (by injection e381)
          replace hx381_0 := (HB.out.cell (World.block_lt_of_cell? w _ hx381_0)).trans hx381_0
          replace hx381_1 := (HB.out.cell (World.block_lt_of_cell? w _ hx381_1)).trans hx381_1
          replace hx381_2 := (HB.out.cell (World.block_lt_of_cell? w _ hx381_2)).trans hx381_2
          replace p381 := eq_true p381
          replace q381 := eq_true q381
          have p382 : 0 ≤ (x4_1 : Int) := of_decide_eq_true (by assumption)
          have q382 : x4_1 < (l0_1.length : Int) := of_decide_eq_true (by assumption)
          obtain ⟨ad382, e382, hx382_0, hx382_1, hx382_2⟩ := at_T36 HR0_1.out x4_1 p382 q382
          have hw382_2 := hx382_2
          have hw382_1 := hx382_1
          have hw382_0 := hx382_0
          obtain rfl : ad379 = ad382 := (by injection e382)
          replace hx382_0 := (HB.out.cell (World.block_lt_of_cell? w _ hx382_0)).trans hx382_0
          replace hx382_1 := (HB.out.cell (World.block_lt_of_cell? w _ hx382_1)).trans hx382_1
          replace hx382_2 := (HB.out.cell (World.block_lt_of_cell? w _ hx382_2)).trans hx382_2
          replace p382 := eq_true p382
          replace q382 := eq_true q382
          refine start_ (n := 13) (S := fun w' => w'.cell? ⟨gb377, 0, none⟩ = some (.int .i64 a0_0) ∧ w'.cell? ⟨gb377, 1, none⟩ = some (.slice (some ad379) l0_1.length c0_1) ∧ w'.cell? (ad379.add ((x4_1).toNat * 3)) = some (.int .i64 ((rd_T36 l0_1 x4_1).f0)) ∧ w'.cell? ⟨(ad379.add ((x4_1).toNat * 3)).block, (ad379.add ((x4_1).toNat * 3)).off + 1, none⟩ = some (.int .i64 ((rd_T36 l0_1 x4_1).f1)) ∧ w'.cell? ⟨(ad379.add ((x4_1).toNat * 3)).block, (ad379.add ((x4_1).toNat * 3)).off + 2, none⟩ = some (.int .i64 ((rd_T36 l0_1 x4_1).f2)) ∧ w'.cell? (ad379.add ((x4_1).toNat * 3)) = some (.int .i64 ((rd_T36 l0_1 x4_1).f0)) ∧ w'.cell? ⟨(ad379.add ((x4_1).toNat * 3)).block, (ad379.add ((x4_1).toNat * 3)).off + 1, none⟩ = some (.int .i64 ((rd_T36 l0_1 x4_1).f1)) ∧ w'.cell? ⟨(ad379.add ((x4_1).toNat * 3)).block, (ad379.add ((x4_1).toNat * 3)).off + 2, none⟩ = some (.int .i64 ((rd_T36 l0_1 x4_1).f2))) (ds := []) #[false, false, false, false, false, false, false, false, false, false, false, false, false] (by kernel_rfl) rfl rfl ⟨(zKc BK377.out 0).trans rfl, (zKc BK377.out 1).trans rfl, ((HB.out.cell (World.block_lt_of_cell? w _ hw381_0)).trans hw381_0), ((HB.out.cell (World.block_lt_of_cell? w _ hw381_1)).trans hw381_1), ((HB.out.cell (World.block_lt_of_cell? w _ hw381_2)).trans hw381_2), ((HB.out.cell (World.block_lt_of_cell? w _ hw382_0)).trans hw382_0), ((HB.out.cell (World.block_lt_of_cell? w _ hw382_1)).trans hw382_1), ((HB.out.cell (World.block_lt_of_cell? w _ hw382_2)).trans hw382_2)⟩ (fun hHeld => ?_); refine with_tabW filigreeref04_Right.tab10 filigreeref04_Right.bits10 (fun HT_ HW_ => ?_)
          generalize w18.drew = w19 at BK377 HB hx381_0 hx381_1 hx381_2 hx382_0 hx382_1 hx382_2 hHeld ⊢
          refine pure_ (i := 0) (N := some 33) (v := ?_) (a' := ?_) #[true, false, false, false, false, false, false, false, false, false, false, false, false] rfl rfl (any_of HT_.out (by kernel_rfl)) (fun _ _ _ h => h) (Or.inl ⟨by rfl, ?_⟩) ?_ ?_
          rotate_left
          · intro w'
            go_simp
            with_reducible rfl
          rotate_left
          · simp only [Act.put, zSa, zSb, zSc, i64_w, i32_w]
            rfl
          refine pure_ (i := 2) (N := some 35) (v := ?_) (a' := ?_) #[true, false, true, false, false, false, false, false, false, false, false, false, false] rfl rfl (any_of HT_.out (by kernel_rfl)) (fun _ _ _ h => h) (Or.inl ⟨by rfl, ?_⟩) ?_ ?_
          rotate_left
          · intro w'
            go_simp
            with_reducible rfl
          rotate_left
          · simp only [Act.put, zSa, zSb, zSc, i64_w, i32_w]
            rfl
          refine pure_ (i := 6) (N := some 39) (v := ?_) (a' := ?_) #[true, false, true, false, false, false, true, false, false, false, false, false, false] rfl rfl (any_of HT_.out (by kernel_rfl)) (fun _ _ _ h => h) (Or.inl ⟨by rfl, ?_⟩) ?_ ?_
          rotate_left
          · intro w'
            go_simp
            with_reducible rfl
          rotate_left
          · simp only [Act.put, zSa, zSb, zSc, i64_w, i32_w]
            rfl
          refine pure_ (i := 8) (N := some 41) (v := ?_) (a' := ?_) #[true, false, true, false, false, false, true, false, true, false, false, false, false] rfl rfl (any_of HT_.out (by kernel_rfl)) (fun _ _ _ h => h) (Or.inl ⟨by rfl, ?_⟩) ?_ ?_
          rotate_left
          · intro w'
            go_simp
            with_reducible rfl
          rotate_left
          · simp only [Act.put, zSa, zSb, zSc, i64_w, i32_w]
            rfl
          refine take_ (i := 1) (N := some 34) (v := ?_) (a' := ?_) #[true, true, true, false, false, false, true, false, true, false, false, false, false] rfl rfl (take_ofW HT_.out HW_.out (by kernel_rfl)) (fun _ _ _ h => h) (Or.inl ⟨by rfl, ?_⟩) hHeld ?_ ?_
          rotate_left
          · rintro w' ⟨s0, s1, s2, s3, s4, s5, s6, s7⟩
            go_simp
            with_reducible rfl
          rotate_left
          · simp only [Act.put, zSa, zSb, zSc, i64_w, i32_w]
            rfl
          refine pure_ (i := 3) (N := some 36) (v := ?_) (a' := ?_) #[true, true, true, true, false, false, true, false, true, false, false, false, false] rfl rfl (any_of HT_.out (by kernel_rfl)) (fun _ _ _ h => h) (Or.inl ⟨by rfl, ?_⟩) ?_ ?_
          rotate_left
          · intro w'
            go_simp
            with_reducible rfl
          rotate_left
          · simp only [Act.put, zSa, zSb, zSc, i64_w, i32_w]
            rfl
          refine pure_ (i := 4) (N := some 37) (v := ?_) (a' := ?_) #[true, true, true, true, true, false, true, false, true, false, false, false, false] rfl rfl (any_of HT_.out (by kernel_rfl)) (fun _ _ _ h => h) (Or.inl ⟨by rfl, ?_⟩) ?_ ?_
          rotate_left
          · intro w'
            go_simp
            with_reducible rfl
          rotate_left
          · simp only [Act.put, zSa, zSb, zSc, i64_w, i32_w]
            rfl
          refine take_ (i := 5) (N := some 38) (v := ?_) (a' := ?_) #[true, true, true, true, true, true, true, false, true, false, false, false, false] rfl rfl (take_ofW HT_.out HW_.out (by kernel_rfl)) (fun _ _ _ h => h) (Or.inl ⟨by rfl, ?_⟩) hHeld ?_ ?_
          rotate_left
          · rintro w' ⟨s0, s1, s2, s3, s4, s5, s6, s7⟩
            go_simp
            with_reducible rfl
          rotate_left
          · simp only [Act.put, zSa, zSb, zSc, i64_w, i32_w]
            rfl
          refine take_ (i := 7) (N := some 40) (v := ?_) (a' := ?_) #[true, true, true, true, true, true, true, true, true, false, false, false, false] rfl rfl (take_ofW HT_.out HW_.out (by kernel_rfl)) (fun _ _ _ h => h) (Or.inl ⟨by rfl, ?_⟩) hHeld ?_ ?_
          rotate_left
          · rintro w' ⟨s0, s1, s2, s3, s4, s5, s6, s7⟩
            go_simp
            with_reducible rfl
          rotate_left
          · simp only [Act.put, zSa, zSb, zSc, i64_w, i32_w]
            rfl
          refine pure_ (i := 9) (N := some 42) (v := ?_) (a' := ?_) #[true, true, true, true, true, true, true, true, true, true, false, false, false] rfl rfl (any_of HT_.out (by kernel_rfl)) (fun _ _ _ h => h) (Or.inl ⟨by rfl, ?_⟩) ?_ ?_
          rotate_left
          · intro w'
            go_simp
            with_reducible rfl
          rotate_left
          · simp only [Act.put, zSa, zSb, zSc, i64_w, i32_w]
            rfl
          refine pure_ (i := 10) (N := some 43) (v := ?_) (a' := ?_) #[true, true, true, true, true, true, true, true, true, true, true, false, false] rfl rfl (any_of HT_.out (by kernel_rfl)) (fun _ _ _ h => h) (Or.inl ⟨by rfl, ?_⟩) ?_ ?_
          rotate_left
          · intro w'
            go_simp
            with_reducible rfl
          rotate_left
          · simp only [Act.put, zSa, zSb, zSc, i64_w, i32_w]
            rfl
          refine take_ (i := 11) (N := some 44) (v := ?_) (a' := ?_) #[true, true, true, true, true, true, true, true, true, true, true, true, false] rfl rfl (take_ofW HT_.out HW_.out (by kernel_rfl)) (fun _ _ _ h => h) (Or.inl ⟨by rfl, ?_⟩) hHeld ?_ ?_
          rotate_left
          · rintro w' ⟨s0, s1, s2, s3, s4, s5, s6, s7⟩
            go_simp
            with_reducible rfl
          rotate_left
          · simp only [Act.put, zSa, zSb, zSc, i64_w, i32_w]
            rfl
          refine pure_ (i := 12) (N := some 45) (v := ?_) (a' := ?_) #[true, true, true, true, true, true, true, true, true, true, true, true, true] rfl rfl (any_of HT_.out (by kernel_rfl)) (fun _ _ _ h => h) (Or.inl ⟨by rfl, ?_⟩) ?_ ?_
          rotate_left
          · intro w'
            go_simp
            with_reducible rfl
          rotate_left
          · simp only [Act.put, zSa, zSb, zSc, i64_w, i32_w]
            rfl
          refine done_ (done_of HT_.out (by kernel_rfl)) ?_
          go_upto_region 12 with (fail)
          go_cut [62] (fun v62 wc => ∃ (kq : Nat) (x62_14 : Bool), v62 = .bool x62_14 ∧ Aside0 (filigreeref04_Right.j1 kq x4_1 x62_14 a0_0 l0_1 = some r) ∧ Aside0 (kq ≤ k1) ∧ Aside0 (wc.heap[gb377]? = some (.cells #[.int .i64 a0_0, (.slice (some ad379) l0_1.length c0_1)] 24 (0, 0))) ∧ Aside0 (Below w.heap.size w wc))
          case first =>
            have H := HC15.out
            clear HC15
            by_cases c20 : x4_1 > 0
            · rw [if_pos c20] at H
              have c20b0 : decide (0 < x4_1) = true := decide_eq_true c20
              clear c20
              (first | rw [c20b0] | (simp only [i64_w, i32_w]; rw [c20b0]) | rw [c20b1] | skip)
              obtain ⟨ji21, hji21⟩ : ∃ j_ : Int, (wrap64 (x4_1 - 1)) = j_ := ⟨_, rfl⟩
              replace H : (if 0 ≤ (ji21) then (if (ji21) < (l0_1.length : Int) then ((filigreeref04_below.f ((rd_T36 l0_1 (ji21)).f0) ((rd_T36 l0_1 (ji21)).f1) ((rd_T36 l0_1 (ji21)).f2) ((rd_T36 l0_1 x4_1).f0) ((rd_T36 l0_1 x4_1).f1) ((rd_T36 l0_1 x4_1).f2)).bind fun t385 => (filigreeref04_Right.j1 k1 x4_1 (!t385) a0_0 l0_1)) else (none)) else (none)) = some r := by first | (rw [hji21] at H; exact H) | (simp only [hji21] at H ⊢; exact H)
              have hji21w : (IntKind.i64.wrap (x4_1 - 1)) = ji21 := (i64_w _).trans hji21
              by_cases c22 : 0 ≤ (ji21)
              rotate_left
              · rw [if_neg c22] at H; exact absurd H (by simp)
              rw [if_pos c22] at H
              have c22b0 : decide (0 ≤ (ji21)) = true := decide_eq_true c22
              clear c22
              by_cases c23 : (ji21) < (l0_1.length : Int)
              rotate_left
              · rw [if_neg c23] at H; exact absurd H (by simp)
              rw [if_pos c23] at H
              have c23b0 : decide ((ji21) < (l0_1.length : Int)) = true := decide_eq_true c23
              clear c23
              replace H := bnd H
              obtain ⟨t385, A240, H⟩ := H
              have A24 := zMk A240
              clear A240
              have H' := zMk H
              clear H
              try go_wp2
              replace BK377 := zMk (zKd BK377.out)
              replace HB := zMk (zBd HB.out)
              have p383 : 0 ≤ ((ji21) : Int) := of_decide_eq_true (by assumption)
              have q383 : (ji21) < (l0_1.length : Int) := of_decide_eq_true (by assumption)
              obtain ⟨ad383, e383, hx383_0, hx383_1, hx383_2⟩ := at_T36 HR0_1.out (ji21) p383 q383
              have hw383_2 := hx383_2
              have hw383_1 := hx383_1
              have hw383_0 := hx383_0
              obtain rfl : ad379 = ad383 := (by injection e383)
              replace hx383_0 := (HB.out.cell (World.block_lt_of_cell? w _ hx383_0)).trans hx383_0
              replace hx383_1 := (HB.out.cell (World.block_lt_of_cell? w _ hx383_1)).trans hx383_1
              replace hx383_2 := (HB.out.cell (World.block_lt_of_cell? w _ hx383_2)).trans hx383_2
              replace p383 := eq_true p383
              replace q383 := eq_true q383
              have p384 : 0 ≤ (x4_1 : Int) := of_decide_eq_true (by assumption)
              have q384 : x4_1 < (l0_1.length : Int) := of_decide_eq_true (by assumption)
              obtain ⟨ad384, e384, hx384_0, hx384_1, hx384_2⟩ := at_T36 HR0_1.out x4_1 p384 q384
              have hw384_2 := hx384_2
              have hw384_1 := hx384_1
              have hw384_0 := hx384_0
              obtain rfl : ad379 = ad384 := (by injection e384)
              replace hx384_0 := (HB.out.cell (World.block_lt_of_cell? w _ hx384_0)).trans hx384_0
              replace hx384_1 := (HB.out.cell (World.block_lt_of_cell? w _ hx384_1)).trans hx384_1
              replace hx384_2 := (HB.out.cell (World.block_lt_of_cell? w _ hx384_2)).trans hx384_2
              replace p384 := eq_true p384
              replace q384 := eq_true q384
              refine start_ (n := 17) (S := fun w' => w'.cell? ⟨gb377, 0, none⟩ = some (.int .i64 a0_0) ∧ w'.cell? ⟨gb377, 1, none⟩ = some (.slice (some ad379) l0_1.length c0_1) ∧ w'.cell? (ad379.add (((ji21)).toNat * 3)) = some (.int .i64 ((rd_T36 l0_1 (ji21)).f0)) ∧ w'.cell? ⟨(ad379.add (((ji21)).toNat * 3)).block, (ad379.add (((ji21)).toNat * 3)).off + 1, none⟩ = some (.int .i64 ((rd_T36 l0_1 (ji21)).f1)) ∧ w'.cell? ⟨(ad379.add (((ji21)).toNat * 3)).block, (ad379.add (((ji21)).toNat * 3)).off + 2, none⟩ = some (.int .i64 ((rd_T36 l0_1 (ji21)).f2)) ∧ w'.cell? (ad379.add ((x4_1).toNat * 3)) = some (.int .i64 ((rd_T36 l0_1 x4_1).f0)) ∧ w'.cell? ⟨(ad379.add ((x4_1).toNat * 3)).block, (ad379.add ((x4_1).toNat * 3)).off + 1, none⟩ = some (.int .i64 ((rd_T36 l0_1 x4_1).f1)) ∧ w'.cell? ⟨(ad379.add ((x4_1).toNat * 3)).block, (ad379.add ((x4_1).toNat * 3)).off + 2, none⟩ = some (.int .i64 ((rd_T36 l0_1 x4_1).f2))) (ds := []) #[false, false, false, false, false, false, false, false, false, false, false, false, false, false, false, false, false] (by kernel_rfl) rfl rfl ⟨(zKc BK377.out 0).trans rfl, (zKc BK377.out 1).trans rfl, ((HB.out.cell (World.block_lt_of_cell? w _ hw383_0)).trans hw383_0), ((HB.out.cell (World.block_lt_of_cell? w _ hw383_1)).trans hw383_1), ((HB.out.cell (World.block_lt_of_cell? w _ hw383_2)).trans hw383_2), ((HB.out.cell (World.block_lt_of_cell? w _ hw384_0)).trans hw384_0), ((HB.out.cell (World.block_lt_of_cell? w _ hw384_1)).trans hw384_1), ((HB.out.cell (World.block_lt_of_cell? w _ hw384_2)).trans hw384_2)⟩ (fun hHeld => ?_); refine with_tabW filigreeref04_Right.tab12 filigreeref04_Right.bits12 (fun HT_ HW_ => ?_)
              generalize w19.drew = w25 at BK377 HB hx383_0 hx383_1 hx383_2 hx384_0 hx384_1 hx384_2 hHeld ⊢
              refine pure_ (i := 0) (N := some 46) (v := ?_) (a' := ?_) #[true, false, false, false, false, false, false, false, false, false, false, false, false, false, false, false, false] rfl rfl (any_of HT_.out (by kernel_rfl)) (fun _ _ _ h => h) (Or.inl ⟨by rfl, ?_⟩) ?_ ?_
              rotate_left
              · intro w'
                go_simp
                with_reducible rfl
              rotate_left
              · simp only [Act.put, zSa, zSb, zSc, i64_w, i32_w]
                rfl
              refine pure_ (i := 1) (N := some 47) (v := ?_) (a' := ?_) #[true, true, false, false, false, false, false, false, false, false, false, false, false, false, false, false, false] rfl rfl (any_of HT_.out (by kernel_rfl)) (fun _ _ _ h => h) (Or.inl ⟨by rfl, ?_⟩) ?_ ?_
              rotate_left
              · intro w'
                go_simp
                with_reducible rfl
              rotate_left
              · simp only [Act.put, zSa, zSb, zSc, i64_w, i32_w]
                rfl
              refine pure_ (i := 2) (N := some 48) (v := ?_) (a' := ?_) #[true, true, true, false, false, false, false, false, false, false, false, false, false, false, false, false, false] rfl rfl (any_of HT_.out (by kernel_rfl)) (fun _ _ _ h => h) (Or.inl ⟨by rfl, ?_⟩) ?_ ?_
              rotate_left
              · intro w'
                go_simp
                with_reducible rfl
              rotate_left
              · simp only [Act.put, zSa, zSb, zSc, i64_w, i32_w]
                rfl
              refine pure_ (i := 3) (N := some 49) (v := ?_) (a' := ?_) #[true, true, true, true, false, false, false, false, false, false, false, false, false, false, false, false, false] rfl rfl (any_of HT_.out (by kernel_rfl)) (fun _ _ _ h => h) (Or.inl ⟨by rfl, ?_⟩) ?_ ?_
              rotate_left
              · intro w'
                go_simp
                with_reducible rfl
              rotate_left
              · simp only [Act.put, zSa, zSb, zSc, i64_w, i32_w]
                rfl
              refine pure_ (i := 5) (N := some 51) (v := ?_) (a' := ?_) #[true, true, true, true, false, true, false, false, false, false, false, false, false, false, false, false, false] rfl rfl (any_of HT_.out (by kernel_rfl)) (fun _ _ _ h => h) (Or.inl ⟨by rfl, ?_⟩) ?_ ?_
              rotate_left
              · intro w'
                go_simp
                with_reducible rfl
              rotate_left
              · simp only [Act.put, zSa, zSb, zSc, i64_w, i32_w]
                rfl
              refine pure_ (i := 6) (N := some 52) (v := ?_) (a' := ?_) #[true, true, true, true, false, true, true, false, false, false, false, false, false, false, false, false, false] rfl rfl (any_of HT_.out (by kernel_rfl)) (fun _ _ _ h => h) (Or.inl ⟨by rfl, ?_⟩) ?_ ?_
              rotate_left
              · intro w'
                go_simp
                with_reducible rfl
              rotate_left
              · simp only [Act.put, zSa, zSb, zSc, i64_w, i32_w]
                rfl
              refine pure_ (i := 9) (N := some 55) (v := ?_) (a' := ?_) #[true, true, true, true, false, true, true, false, false, true, false, false, false, false, false, false, false] rfl rfl (any_of HT_.out (by kernel_rfl)) (fun _ _ _ h => h) (Or.inl ⟨by rfl, ?_⟩) ?_ ?_
              rotate_left
              · intro w'
                go_simp
                with_reducible rfl
              rotate_left
              · simp only [Act.put, zSa, zSb, zSc, i64_w, i32_w]
                rfl
              refine pure_ (i := 11) (N := some 57) (v := ?_) (a' := ?_) #[true, true, true, true, false, true, true, false, false, true, false, true, false, false, false, false, false] rfl rfl (any_of HT_.out (by kernel_rfl)) (fun _ _ _ h => h) (Or.inl ⟨by rfl, ?_⟩) ?_ ?_
              rotate_left
              · intro w'
                go_simp
                with_reducible rfl
              rotate_left
              · simp only [Act.put, zSa, zSb, zSc, i64_w, i32_w]
                rfl
              refine take_ (i := 4) (N := some 50) (v := ?_) (a' := ?_) #[true, true, true, true, true, true, true, false, false, true, false, true, false, false, false, false, false] rfl rfl (take_ofW HT_.out HW_.out (by kernel_rfl)) (fun _ _ _ h => h) (Or.inl ⟨by rfl, ?_⟩) hHeld ?_ ?_
              rotate_left
              · rintro w' ⟨s0, s1, s2, s3, s4, s5, s6, s7⟩
                go_simp
                with_reducible rfl
              rotate_left
              · simp only [Act.put, zSa, zSb, zSc, i64_w, i32_w]
                rfl
              refine pure_ (i := 7) (N := some 53) (v := ?_) (a' := ?_) #[true, true, true, true, true, true, true, true, false, true, false, true, false, false, false, false, false] rfl rfl (any_of HT_.out (by kernel_rfl)) (fun _ _ _ h => h) (Or.inl ⟨by rfl, ?_⟩) ?_ ?_
              rotate_left
              · intro w'
                go_simp
                with_reducible rfl
              rotate_left
              · simp only [Act.put, zSa, zSb, zSc, i64_w, i32_w]
                rfl
              refine take_ (i := 8) (N := some 54) (v := ?_) (a' := ?_) #[true, true, true, true, true, true, true, true, true, true, false, true, false, false, false, false, false] rfl rfl (take_ofW HT_.out HW_.out (by kernel_rfl)) (fun _ _ _ h => h) (Or.inl ⟨by rfl, ?_⟩) hHeld ?_ ?_
              rotate_left
              · rintro w' ⟨s0, s1, s2, s3, s4, s5, s6, s7⟩
                go_simp
                with_reducible rfl
              rotate_left
              · simp only [Act.put, zSa, zSb, zSc, i64_w, i32_w]
                rfl
              refine take_ (i := 10) (N := some 56) (v := ?_) (a' := ?_) #[true, true, true, true, true, true, true, true, true, true, true, true, false, false, false, false, false] rfl rfl (take_ofW HT_.out HW_.out (by kernel_rfl)) (fun _ _ _ h => h) (Or.inl ⟨by rfl, ?_⟩) hHeld ?_ ?_
              rotate_left
              · rintro w' ⟨s0, s1, s2, s3, s4, s5, s6, s7⟩
                go_simp
                with_reducible rfl
              rotate_left
              · simp only [Act.put, zSa, zSb, zSc, i64_w, i32_w]
                rfl
              refine pure_ (i := 12) (N := some 58) (v := ?_) (a' := ?_) #[true, true, true, true, true, true, true, true, true, true, true, true, true, false, false, false, false] rfl rfl (any_of HT_.out (by kernel_rfl)) (fun _ _ _ h => h) (Or.inl ⟨by rfl, ?_⟩) ?_ ?_
              rotate_left
              · intro w'
                go_simp
                with_reducible rfl
              rotate_left
              · simp only [Act.put, zSa, zSb, zSc, i64_w, i32_w]
                rfl
              refine take_ (i := 13) (N := some 59) (v := ?_) (a' := ?_) #[true, true, true, true, true, true, true, true, true, true, true, true, true, true, false, false, false] rfl rfl (take_ofW HT_.out HW_.out (by kernel_rfl)) (fun _ _ _ h => h) (Or.inl ⟨by rfl, ?_⟩) hHeld ?_ ?_
              rotate_left
              · rintro w' ⟨s0, s1, s2, s3, s4, s5, s6, s7⟩
                go_simp
                with_reducible rfl
              rotate_left
              · simp only [Act.put, zSa, zSb, zSc, i64_w, i32_w]
                rfl
              refine one_ (i := 14) (N := some 60) #[true, true, true, true, true, true, true, true, true, true, true, true, true, true, true, false, false] rfl rfl (one_of HT_.out (by kernel_rfl)) (by decide) (fun K hK => ?_)
              refine goes_ Try.func37 (by kernel_rfl) rfl #[.agg #[.int .i64 ((rd_T36 l0_1 (ji21)).f0), .int .i64 ((rd_T36 l0_1 (ji21)).f1), .int .i64 ((rd_T36 l0_1 (ji21)).f2)], .agg #[.int .i64 ((rd_T36 l0_1 x4_1).f0), .int .i64 ((rd_T36 l0_1 x4_1).f1), .int .i64 ((rd_T36 l0_1 x4_1).f2)]] (by rfl) rfl rfl (by (try simp only [zMa, zMc, zMn]); first | done | (simp only [hji21]; rfl) | rfl | (simp only [zLd, zLt]; rfl)) ?_
              with_reducible refine (filigreeref04_below.calls ((rd_T36 l0_1 (ji21)).f0) ((rd_T36 l0_1 (ji21)).f1) ((rd_T36 l0_1 (ji21)).f2) ((rd_T36 l0_1 x4_1).f0) ((rd_T36 l0_1 x4_1).f1) ((rd_T36 l0_1 x4_1).f2) t385 _ A24.out).mono ?_
              rintro e w26 ⟨rfl, hb⟩
              refine ⟨_, rfl, ?_⟩
              replace BK377 := zMk (zKb (g := gb377) (o := .cells #[.int .i64 a0_0, .slice (some ad379) l0_1.length c0_1] 24 (0, 0)) (by (with_reducible repeat (first | refine zKn ?_ _ | refine zKd ?_ | refine zKa ?_ _)); exact BK377.out) hb)
              replace HB := zMk (zBt (by exact uT HB.out) hb)
              refine hK.out _ _ ⟨(zKc BK377.out 0).trans rfl, (zKc BK377.out 1).trans rfl, ((HB.out.cell (World.block_lt_of_cell? w _ hw383_0)).trans hw383_0), ((HB.out.cell (World.block_lt_of_cell? w _ hw383_1)).trans hw383_1), ((HB.out.cell (World.block_lt_of_cell? w _ hw383_2)).trans hw383_2), ((HB.out.cell (World.block_lt_of_cell? w _ hw384_0)).trans hw384_0), ((HB.out.cell (World.block_lt_of_cell? w _ hw384_1)).trans hw384_1), ((HB.out.cell (World.block_lt_of_cell? w _ hw384_2)).trans hw384_2)⟩ (fun hHeld => ?_)
              clear hK K
              refine norm_ (a' := ?_) ?_ ?_
              rotate_left
              · show Act.put _ (some 60) _ = _
                simp only [Act.put, zSa, zSb, zSc, i64_w, i32_w]
                rfl
              refine pure_ (i := 15) (N := some 61) (v := ?_) (a' := ?_) #[true, true, true, true, true, true, true, true, true, true, true, true, true, true, true, true, false] rfl rfl (any_of HT_.out (by kernel_rfl)) (fun _ _ _ h => h) (Or.inl ⟨by rfl, ?_⟩) ?_ ?_
              rotate_left
              · intro w'
                go_simp
                with_reducible rfl
              rotate_left
              · simp only [Act.put, zSa, zSb, zSc, i64_w, i32_w]
                rfl
              refine pure_ (i := 16) (N := some 62) (v := ?_) (a' := ?_) #[true, true, true, true, true, true, true, true, true, true, true, true, true, true, true, true, true] rfl rfl (any_of HT_.out (by kernel_rfl)) (fun _ _ _ h => h) (Or.inl ⟨by rfl, ?_⟩) ?_ ?_
              rotate_left
              · intro w'
                go_simp
                with_reducible rfl
              rotate_left
              · simp only [Act.put, zSa, zSb, zSc, i64_w, i32_w]
                rfl
              refine done_ (done_of HT_.out (by kernel_rfl)) ?_
              try go_wp2
              go_meet
              case rel => exact ⟨_, (!t385), (by first | rfl | (simp; done) | (simp [*]; done)), H', ⟨by have := HK1.out; first | omega | exact Nat.le_refl _⟩, ⟨by (with_reducible repeat (first | refine zKn ?_ _ | refine zKd ?_ | refine zKa ?_ _)); exact BK377.out⟩, ⟨by exact uT HB.out⟩⟩
            · rw [if_neg c20] at H
              have c20b0 : decide (0 < x4_1) = false := decide_eq_false c20
              clear c20
              (first | rw [c20b0] | (simp only [i64_w, i32_w]; rw [c20b0]) | rw [c20b1] | skip)
              have H' := zMk H
              clear H
              try go_wp2
              replace BK377 := zMk (zKd BK377.out)
              replace HB := zMk (zBd HB.out)
              refine start_ (n := 17) (S := fun w' => True) (ds := []) #[false, false, false, false, false, false, false, false, false, false, false, false, false, false, false, false, false] (by kernel_rfl) rfl rfl trivial (fun hHeld => ?_); refine with_tabW filigreeref04_Right.tab12 filigreeref04_Right.bits12 (fun HT_ HW_ => ?_)
              generalize w19.drew = w27 at BK377 HB hHeld ⊢
              refine pure_ (i := 0) (N := some 46) (v := ?_) (a' := ?_) #[true, false, false, false, false, false, false, false, false, false, false, false, false, false, false, false, false] rfl rfl (any_of HT_.out (by kernel_rfl)) (fun _ _ _ h => h) (Or.inl ⟨by rfl, ?_⟩) ?_ ?_
              rotate_left
              · intro w'
                go_simp
                with_reducible rfl
              rotate_left
              · simp only [Act.put, zSa, zSb, zSc, i64_w, i32_w]
                rfl
              refine pure_ (i := 1) (N := some 47) (v := ?_) (a' := ?_) #[true, true, false, false, false, false, false, false, false, false, false, false, false, false, false, false, false] rfl rfl (any_of HT_.out (by kernel_rfl)) (fun _ _ _ h => h) (Or.inl ⟨by rfl, ?_⟩) ?_ ?_
              rotate_left
              · intro w'
                go_simp
                with_reducible rfl
              rotate_left
              · simp only [Act.put, zSa, zSb, zSc, i64_w, i32_w]
                rfl
              refine pure_ (i := 2) (N := some 48) (v := ?_) (a' := ?_) #[true, true, true, false, false, false, false, false, false, false, false, false, false, false, false, false, false] rfl rfl (any_of HT_.out (by kernel_rfl)) (fun _ _ _ h => h) (Or.inl ⟨by rfl, ?_⟩) ?_ ?_
              rotate_left
              · intro w'
                go_simp
                with_reducible rfl
              rotate_left
              · simp only [Act.put, zSa, zSb, zSc, i64_w, i32_w]
                rfl
              refine pure_ (i := 3) (N := some 49) (v := undef) (a' := ?_) #[true, true, true, true, false, false, false, false, false, false, false, false, false, false, false, false, false] rfl rfl (any_of HT_.out (by kernel_rfl)) (fun _ _ _ h => h) (Or.inr ⟨by rfl, rfl⟩) ?_ ?_
              rotate_left
              · simp only [Act.put, zSa, zSb, zSc, i64_w, i32_w]
                rfl
              refine pure_ (i := 4) (N := some 50) (v := undef) (a' := ?_) #[true, true, true, true, true, false, false, false, false, false, false, false, false, false, false, false, false] rfl rfl (any_of HT_.out (by kernel_rfl)) (fun _ _ _ h => h) (Or.inr ⟨by rfl, rfl⟩) ?_ ?_
              rotate_left
              · simp only [Act.put, zSa, zSb, zSc, i64_w, i32_w]
                rfl
              refine pure_ (i := 5) (N := some 51) (v := undef) (a' := ?_) #[true, true, true, true, true, true, false, false, false, false, false, false, false, false, false, false, false] rfl rfl (any_of HT_.out (by kernel_rfl)) (fun _ _ _ h => h) (Or.inr ⟨by rfl, rfl⟩) ?_ ?_
              rotate_left
              · simp only [Act.put, zSa, zSb, zSc, i64_w, i32_w]
                rfl
              refine pure_ (i := 6) (N := some 52) (v := undef) (a' := ?_) #[true, true, true, true, true, true, true, false, false, false, false, false, false, false, false, false, false] rfl rfl (any_of HT_.out (by kernel_rfl)) (fun _ _ _ h => h) (Or.inr ⟨by rfl, rfl⟩) ?_ ?_
              rotate_left
              · simp only [Act.put, zSa, zSb, zSc, i64_w, i32_w]
                rfl
              refine pure_ (i := 7) (N := some 53) (v := undef) (a' := ?_) #[true, true, true, true, true, true, true, true, false, false, false, false, false, false, false, false, false] rfl rfl (any_of HT_.out (by kernel_rfl)) (fun _ _ _ h => h) (Or.inr ⟨by rfl, rfl⟩) ?_ ?_
              rotate_left
              · simp only [Act.put, zSa, zSb, zSc, i64_w, i32_w]
                rfl
              refine pure_ (i := 8) (N := some 54) (v := undef) (a' := ?_) #[true, true, true, true, true, true, true, true, true, false, false, false, false, false, false, false, false] rfl rfl (any_of HT_.out (by kernel_rfl)) (fun _ _ _ h => h) (Or.inr ⟨by rfl, rfl⟩) ?_ ?_
              rotate_left
              · simp only [Act.put, zSa, zSb, zSc, i64_w, i32_w]
                rfl
              refine pure_ (i := 9) (N := some 55) (v := undef) (a' := ?_) #[true, true, true, true, true, true, true, true, true, true, false, false, false, false, false, false, false] rfl rfl (any_of HT_.out (by kernel_rfl)) (fun _ _ _ h => h) (Or.inr ⟨by rfl, rfl⟩) ?_ ?_
              rotate_left
              · simp only [Act.put, zSa, zSb, zSc, i64_w, i32_w]
                rfl
              refine pure_ (i := 10) (N := some 56) (v := undef) (a' := ?_) #[true, true, true, true, true, true, true, true, true, true, true, false, false, false, false, false, false] rfl rfl (any_of HT_.out (by kernel_rfl)) (fun _ _ _ h => h) (Or.inr ⟨by rfl, rfl⟩) ?_ ?_
              rotate_left
              · simp only [Act.put, zSa, zSb, zSc, i64_w, i32_w]
                rfl
              refine pure_ (i := 11) (N := some 57) (v := undef) (a' := ?_) #[true, true, true, true, true, true, true, true, true, true, true, true, false, false, false, false, false] rfl rfl (any_of HT_.out (by kernel_rfl)) (fun _ _ _ h => h) (Or.inr ⟨by rfl, rfl⟩) ?_ ?_
              rotate_left
              · simp only [Act.put, zSa, zSb, zSc, i64_w, i32_w]
                rfl
              refine pure_ (i := 12) (N := some 58) (v := undef) (a' := ?_) #[true, true, true, true, true, true, true, true, true, true, true, true, true, false, false, false, false] rfl rfl (any_of HT_.out (by kernel_rfl)) (fun _ _ _ h => h) (Or.inr ⟨by rfl, rfl⟩) ?_ ?_
              rotate_left
              · simp only [Act.put, zSa, zSb, zSc, i64_w, i32_w]
                rfl
              refine pure_ (i := 13) (N := some 59) (v := undef) (a' := ?_) #[true, true, true, true, true, true, true, true, true, true, true, true, true, true, false, false, false] rfl rfl (any_of HT_.out (by kernel_rfl)) (fun _ _ _ h => h) (Or.inr ⟨by rfl, rfl⟩) ?_ ?_
              rotate_left
              · simp only [Act.put, zSa, zSb, zSc, i64_w, i32_w]
                rfl
              refine pure_ (i := 14) (N := some 60) (v := undef) (a' := ?_) #[true, true, true, true, true, true, true, true, true, true, true, true, true, true, true, false, false] rfl rfl (any_of HT_.out (by kernel_rfl)) (fun _ _ _ h => h) (Or.inr ⟨by rfl, rfl⟩) ?_ ?_
              rotate_left
              · simp only [Act.put, zSa, zSb, zSc, i64_w, i32_w]
                rfl
              refine pure_ (i := 15) (N := some 61) (v := undef) (a' := ?_) #[true, true, true, true, true, true, true, true, true, true, true, true, true, true, true, true, false] rfl rfl (any_of HT_.out (by kernel_rfl)) (fun _ _ _ h => h) (Or.inr ⟨by rfl, rfl⟩) ?_ ?_
              rotate_left
              · simp only [Act.put, zSa, zSb, zSc, i64_w, i32_w]
                rfl
              refine pure_ (i := 16) (N := some 62) (v := ?_) (a' := ?_) #[true, true, true, true, true, true, true, true, true, true, true, true, true, true, true, true, true] rfl rfl (any_of HT_.out (by kernel_rfl)) (fun _ _ _ h => h) (Or.inl ⟨by rfl, ?_⟩) ?_ ?_
              rotate_left
              · intro w'
                go_simp
                with_reducible rfl
              rotate_left
              · simp only [Act.put, zSa, zSb, zSc, i64_w, i32_w]
                rfl
              refine done_ (done_of HT_.out (by kernel_rfl)) ?_
              try go_wp2
              go_meet
              case rel => exact ⟨_, (false), (by first | rfl | (simp; done) | (simp [*]; done)), H', ⟨by have := HK1.out; first | omega | exact Nat.le_refl _⟩, ⟨by (with_reducible repeat (first | refine zKn ?_ _ | refine zKd ?_ | refine zKa ?_ _)); exact BK377.out⟩, ⟨by exact uT HB.out⟩⟩
          case rest =>
            clear HC15
            obtain ⟨kq, x62_14, rfl, HA, HJ14, BK377, HB⟩ := hcut
            rcases kq with _ | kj14
            · exact absurd HA.out (by simp [filigreeref04_Right.j1])
            have H := HA.out
            clear HA
            simp only [filigreeref04_Right.j1] at H
            by_cases c28 : x62_14 = true
            · subst c28
              replace H : (if 0 ≤ x4_1 then (if x4_1 < (l0_1.length : Int) then (if 0 ≤ (wrap64 (x4_1 - 1)) then (if (wrap64 (x4_1 - 1)) < (l0_1.length : Int) then ((filigreeref04_below.f ((rd_T36 l0_1 x4_1).f0) ((rd_T36 l0_1 x4_1).f1) ((rd_T36 l0_1 x4_1).f2) ((rd_T36 l0_1 (wrap64 (x4_1 - 1))).f0) ((rd_T36 l0_1 (wrap64 (x4_1 - 1))).f1) ((rd_T36 l0_1 (wrap64 (x4_1 - 1))).f2)).bind fun t388 => (if t388 = true then (some 1) else (some 7))) else (none)) else (none)) else (none)) else (none)) = some r := by rw [if_pos rfl] at H; exact H
              by_cases c29 : 0 ≤ x4_1
              rotate_left
              · rw [if_neg c29] at H; exact absurd H (by simp)
              rw [if_pos c29] at H
              have c29b0 : decide (0 ≤ x4_1) = true := decide_eq_true c29
              clear c29
              by_cases c30 : x4_1 < (l0_1.length : Int)
              rotate_left
              · rw [if_neg c30] at H; exact absurd H (by simp)
              rw [if_pos c30] at H
              have c30b0 : decide (x4_1 < (l0_1.length : Int)) = true := decide_eq_true c30
              clear c30
              obtain ⟨ji31, hji31⟩ : ∃ j_ : Int, (wrap64 (x4_1 - 1)) = j_ := ⟨_, rfl⟩
              replace H : (if 0 ≤ (ji31) then (if (ji31) < (l0_1.length : Int) then ((filigreeref04_below.f ((rd_T36 l0_1 x4_1).f0) ((rd_T36 l0_1 x4_1).f1) ((rd_T36 l0_1 x4_1).f2) ((rd_T36 l0_1 (ji31)).f0) ((rd_T36 l0_1 (ji31)).f1) ((rd_T36 l0_1 (ji31)).f2)).bind fun t388 => (if t388 = true then (some 1) else (some 7))) else (none)) else (none)) = some r := by first | (rw [hji31] at H; exact H) | (simp only [hji31] at H ⊢; exact H)
              have hji31w : (IntKind.i64.wrap (x4_1 - 1)) = ji31 := (i64_w _).trans hji31
              by_cases c32 : 0 ≤ (ji31)
              rotate_left
              · rw [if_neg c32] at H; exact absurd H (by simp)
              rw [if_pos c32] at H
              have c32b0 : decide (0 ≤ (ji31)) = true := decide_eq_true c32
              clear c32
              by_cases c33 : (ji31) < (l0_1.length : Int)
              rotate_left
              · rw [if_neg c33] at H; exact absurd H (by simp)
              rw [if_pos c33] at H
              have c33b0 : decide ((ji31) < (l0_1.length : Int)) = true := decide_eq_true c33
              clear c33
              replace H := bnd H
              obtain ⟨t388, A340, H⟩ := H
              have A34 := zMk A340
              clear A340
              by_cases c35 : t388 = true
              · subst c35
                replace H : (some 1) = some r := by rw [if_pos rfl] at H; exact H
                obtain rfl := zOi H
                try go_wp2
                replace BK377 := zMk (zKd BK377.out)
                replace HB := zMk (zBd HB.out)
                have p386 : 0 ≤ (x4_1 : Int) := of_decide_eq_true (by assumption)
                have q386 : x4_1 < (l0_1.length : Int) := of_decide_eq_true (by assumption)
                obtain ⟨ad386, e386, hx386_0, hx386_1, hx386_2⟩ := at_T36 HR0_1.out x4_1 p386 q386
                have hw386_2 := hx386_2
                have hw386_1 := hx386_1
                have hw386_0 := hx386_0
                obtain rfl : ad379 = ad386 := (by injection e386)
                replace hx386_0 := (HB.out.cell (World.block_lt_of_cell? w _ hx386_0)).trans hx386_0
                replace hx386_1 := (HB.out.cell (World.block_lt_of_cell? w _ hx386_1)).trans hx386_1
                replace hx386_2 := (HB.out.cell (World.block_lt_of_cell? w _ hx386_2)).trans hx386_2
                replace p386 := eq_true p386
                replace q386 := eq_true q386
                have p387 : 0 ≤ ((ji31) : Int) := of_decide_eq_true (by assumption)
                have q387 : (ji31) < (l0_1.length : Int) := of_decide_eq_true (by assumption)
                obtain ⟨ad387, e387, hx387_0, hx387_1, hx387_2⟩ := at_T36 HR0_1.out (ji31) p387 q387
                have hw387_2 := hx387_2
                have hw387_1 := hx387_1
                have hw387_0 := hx387_0
                obtain rfl : ad379 = ad387 := (by injection e387)
                replace hx387_0 := (HB.out.cell (World.block_lt_of_cell? w _ hx387_0)).trans hx387_0
                replace hx387_1 := (HB.out.cell (World.block_lt_of_cell? w _ hx387_1)).trans hx387_1
                replace hx387_2 := (HB.out.cell (World.block_lt_of_cell? w _ hx387_2)).trans hx387_2
                replace p387 := eq_true p387
                replace q387 := eq_true q387
                refine start_ (n := 12) (S := fun w' => w'.cell? ⟨gb377, 0, none⟩ = some (.int .i64 a0_0) ∧ w'.cell? ⟨gb377, 1, none⟩ = some (.slice (some ad379) l0_1.length c0_1) ∧ w'.cell? (ad379.add ((x4_1).toNat * 3)) = some (.int .i64 ((rd_T36 l0_1 x4_1).f0)) ∧ w'.cell? ⟨(ad379.add ((x4_1).toNat * 3)).block, (ad379.add ((x4_1).toNat * 3)).off + 1, none⟩ = some (.int .i64 ((rd_T36 l0_1 x4_1).f1)) ∧ w'.cell? ⟨(ad379.add ((x4_1).toNat * 3)).block, (ad379.add ((x4_1).toNat * 3)).off + 2, none⟩ = some (.int .i64 ((rd_T36 l0_1 x4_1).f2)) ∧ w'.cell? (ad379.add (((ji31)).toNat * 3)) = some (.int .i64 ((rd_T36 l0_1 (ji31)).f0)) ∧ w'.cell? ⟨(ad379.add (((ji31)).toNat * 3)).block, (ad379.add (((ji31)).toNat * 3)).off + 1, none⟩ = some (.int .i64 ((rd_T36 l0_1 (ji31)).f1)) ∧ w'.cell? ⟨(ad379.add (((ji31)).toNat * 3)).block, (ad379.add (((ji31)).toNat * 3)).off + 2, none⟩ = some (.int .i64 ((rd_T36 l0_1 (ji31)).f2))) (ds := []) #[false, false, false, false, false, false, false, false, false, false, false, false] (by kernel_rfl) rfl rfl ⟨(zKc BK377.out 0).trans rfl, (zKc BK377.out 1).trans rfl, ((HB.out.cell (World.block_lt_of_cell? w _ hw386_0)).trans hw386_0), ((HB.out.cell (World.block_lt_of_cell? w _ hw386_1)).trans hw386_1), ((HB.out.cell (World.block_lt_of_cell? w _ hw386_2)).trans hw386_2), ((HB.out.cell (World.block_lt_of_cell? w _ hw387_0)).trans hw387_0), ((HB.out.cell (World.block_lt_of_cell? w _ hw387_1)).trans hw387_1), ((HB.out.cell (World.block_lt_of_cell? w _ hw387_2)).trans hw387_2)⟩ (fun hHeld => ?_); refine with_tabW filigreeref04_Right.tab13 filigreeref04_Right.bits13 (fun HT_ HW_ => ?_)
                generalize wc.drew = w36 at BK377 HB hx386_0 hx386_1 hx386_2 hx387_0 hx387_1 hx387_2 hHeld ⊢
                refine pure_ (i := 0) (N := some 63) (v := ?_) (a' := ?_) #[true, false, false, false, false, false, false, false, false, false, false, false] rfl rfl (any_of HT_.out (by kernel_rfl)) (fun _ _ _ h => h) (Or.inl ⟨by rfl, ?_⟩) ?_ ?_
                rotate_left
                · intro w'
                  go_simp
                  with_reducible rfl
                rotate_left
                · simp only [Act.put, zSa, zSb, zSc, i64_w, i32_w]
                  rfl
                refine pure_ (i := 2) (N := some 65) (v := ?_) (a' := ?_) #[true, false, true, false, false, false, false, false, false, false, false, false] rfl rfl (any_of HT_.out (by kernel_rfl)) (fun _ _ _ h => h) (Or.inl ⟨by rfl, ?_⟩) ?_ ?_
                rotate_left
                · intro w'
                  go_simp
                  with_reducible rfl
                rotate_left
                · simp only [Act.put, zSa, zSb, zSc, i64_w, i32_w]
                  rfl
                refine pure_ (i := 5) (N := some 68) (v := ?_) (a' := ?_) #[true, false, true, false, false, true, false, false, false, false, false, false] rfl rfl (any_of HT_.out (by kernel_rfl)) (fun _ _ _ h => h) (Or.inl ⟨by rfl, ?_⟩) ?_ ?_
                rotate_left
                · intro w'
                  go_simp
                  with_reducible rfl
                rotate_left
                · simp only [Act.put, zSa, zSb, zSc, i64_w, i32_w]
                  rfl
                refine pure_ (i := 7) (N := some 70) (v := ?_) (a' := ?_) #[true, false, true, false, false, true, false, true, false, false, false, false] rfl rfl (any_of HT_.out (by kernel_rfl)) (fun _ _ _ h => h) (Or.inl ⟨by rfl, ?_⟩) ?_ ?_
                rotate_left
                · intro w'
                  go_simp
                  with_reducible rfl
                rotate_left
                · simp only [Act.put, zSa, zSb, zSc, i64_w, i32_w]
                  rfl
                refine pure_ (i := 8) (N := some 71) (v := ?_) (a' := ?_) #[true, false, true, false, false, true, false, true, true, false, false, false] rfl rfl (any_of HT_.out (by kernel_rfl)) (fun _ _ _ h => h) (Or.inl ⟨by rfl, ?_⟩) ?_ ?_
                rotate_left
                · intro w'
                  go_simp
                  with_reducible rfl
                rotate_left
                · simp only [Act.put, zSa, zSb, zSc, i64_w, i32_w]
                  rfl
                refine take_ (i := 1) (N := some 64) (v := ?_) (a' := ?_) #[true, true, true, false, false, true, false, true, true, false, false, false] rfl rfl (take_ofW HT_.out HW_.out (by kernel_rfl)) (fun _ _ _ h => h) (Or.inl ⟨by rfl, ?_⟩) hHeld ?_ ?_
                rotate_left
                · rintro w' ⟨s0, s1, s2, s3, s4, s5, s6, s7⟩
                  go_simp
                  with_reducible rfl
                rotate_left
                · simp only [Act.put, zSa, zSb, zSc, i64_w, i32_w]
                  rfl
                refine pure_ (i := 3) (N := some 66) (v := ?_) (a' := ?_) #[true, true, true, true, false, true, false, true, true, false, false, false] rfl rfl (any_of HT_.out (by kernel_rfl)) (fun _ _ _ h => h) (Or.inl ⟨by rfl, ?_⟩) ?_ ?_
                rotate_left
                · intro w'
                  go_simp
                  with_reducible rfl
                rotate_left
                · simp only [Act.put, zSa, zSb, zSc, i64_w, i32_w]
                  rfl
                refine take_ (i := 4) (N := some 67) (v := ?_) (a' := ?_) #[true, true, true, true, true, true, false, true, true, false, false, false] rfl rfl (take_ofW HT_.out HW_.out (by kernel_rfl)) (fun _ _ _ h => h) (Or.inl ⟨by rfl, ?_⟩) hHeld ?_ ?_
                rotate_left
                · rintro w' ⟨s0, s1, s2, s3, s4, s5, s6, s7⟩
                  go_simp
                  with_reducible rfl
                rotate_left
                · simp only [Act.put, zSa, zSb, zSc, i64_w, i32_w]
                  rfl
                refine take_ (i := 6) (N := some 69) (v := ?_) (a' := ?_) #[true, true, true, true, true, true, true, true, true, false, false, false] rfl rfl (take_ofW HT_.out HW_.out (by kernel_rfl)) (fun _ _ _ h => h) (Or.inl ⟨by rfl, ?_⟩) hHeld ?_ ?_
                rotate_left
                · rintro w' ⟨s0, s1, s2, s3, s4, s5, s6, s7⟩
                  go_simp
                  with_reducible rfl
                rotate_left
                · simp only [Act.put, zSa, zSb, zSc, i64_w, i32_w]
                  rfl
                refine pure_ (i := 9) (N := some 72) (v := ?_) (a' := ?_) #[true, true, true, true, true, true, true, true, true, true, false, false] rfl rfl (any_of HT_.out (by kernel_rfl)) (fun _ _ _ h => h) (Or.inl ⟨by rfl, ?_⟩) ?_ ?_
                rotate_left
                · intro w'
                  go_simp
                  with_reducible rfl
                rotate_left
                · simp only [Act.put, zSa, zSb, zSc, i64_w, i32_w]
                  rfl
                refine take_ (i := 10) (N := some 73) (v := ?_) (a' := ?_) #[true, true, true, true, true, true, true, true, true, true, true, false] rfl rfl (take_ofW HT_.out HW_.out (by kernel_rfl)) (fun _ _ _ h => h) (Or.inl ⟨by rfl, ?_⟩) hHeld ?_ ?_
                rotate_left
                · rintro w' ⟨s0, s1, s2, s3, s4, s5, s6, s7⟩
                  go_simp
                  with_reducible rfl
                rotate_left
                · simp only [Act.put, zSa, zSb, zSc, i64_w, i32_w]
                  rfl
                refine one_ (i := 11) (N := some 74) #[true, true, true, true, true, true, true, true, true, true, true, true] rfl rfl (one_of HT_.out (by kernel_rfl)) (by decide) (fun K hK => ?_)
                refine goes_ Try.func37 (by kernel_rfl) rfl #[.agg #[.int .i64 ((rd_T36 l0_1 x4_1).f0), .int .i64 ((rd_T36 l0_1 x4_1).f1), .int .i64 ((rd_T36 l0_1 x4_1).f2)], .agg #[.int .i64 ((rd_T36 l0_1 (ji31)).f0), .int .i64 ((rd_T36 l0_1 (ji31)).f1), .int .i64 ((rd_T36 l0_1 (ji31)).f2)]] (by rfl) rfl rfl (by (try simp only [zMa, zMc, zMn]); first | done | (simp only [hji31]; rfl) | rfl | (simp only [zLd, zLt]; rfl)) ?_
                with_reducible refine (filigreeref04_below.calls ((rd_T36 l0_1 x4_1).f0) ((rd_T36 l0_1 x4_1).f1) ((rd_T36 l0_1 x4_1).f2) ((rd_T36 l0_1 (ji31)).f0) ((rd_T36 l0_1 (ji31)).f1) ((rd_T36 l0_1 (ji31)).f2) true _ A34.out).mono ?_
                rintro e w37 ⟨rfl, hb⟩
                refine ⟨_, rfl, ?_⟩
                replace BK377 := zMk (zKb (g := gb377) (o := .cells #[.int .i64 a0_0, .slice (some ad379) l0_1.length c0_1] 24 (0, 0)) (by (with_reducible repeat (first | refine zKn ?_ _ | refine zKd ?_ | refine zKa ?_ _)); exact BK377.out) hb)
                replace HB := zMk (zBt (by exact uT HB.out) hb)
                refine hK.out _ _ ⟨(zKc BK377.out 0).trans rfl, (zKc BK377.out 1).trans rfl, ((HB.out.cell (World.block_lt_of_cell? w _ hw386_0)).trans hw386_0), ((HB.out.cell (World.block_lt_of_cell? w _ hw386_1)).trans hw386_1), ((HB.out.cell (World.block_lt_of_cell? w _ hw386_2)).trans hw386_2), ((HB.out.cell (World.block_lt_of_cell? w _ hw387_0)).trans hw387_0), ((HB.out.cell (World.block_lt_of_cell? w _ hw387_1)).trans hw387_1), ((HB.out.cell (World.block_lt_of_cell? w _ hw387_2)).trans hw387_2)⟩ (fun hHeld => ?_)
                clear hK K
                refine norm_ (a' := ?_) ?_ ?_
                rotate_left
                · show Act.put _ (some 74) _ = _
                  simp only [Act.put, zSa, zSb, zSc, i64_w, i32_w]
                  rfl
                refine done_ (done_of HT_.out (by kernel_rfl)) ?_
                try go_wp2
                go_ret
                exact ⟨by first | rfl | (simp [errW_none, errW_some] <;> rfl) | (simp only [← hji31]; first | rfl | (simp [errW_none, errW_some] <;> rfl)) | (simp [*, errW_none, errW_some] <;> rfl), by exact uT HB.out⟩
              · replace c35 := Bool.eq_false_iff.mpr c35
                subst c35
                replace H : (some 7) = some r := by rw [if_neg (show ¬ (false = true) by decide)] at H; exact H
                obtain rfl := zOi H
                try go_wp2
                replace BK377 := zMk (zKd BK377.out)
                replace HB := zMk (zBd HB.out)
                have p386 : 0 ≤ (x4_1 : Int) := of_decide_eq_true (by assumption)
                have q386 : x4_1 < (l0_1.length : Int) := of_decide_eq_true (by assumption)
                obtain ⟨ad386, e386, hx386_0, hx386_1, hx386_2⟩ := at_T36 HR0_1.out x4_1 p386 q386
                have hw386_2 := hx386_2
                have hw386_1 := hx386_1
                have hw386_0 := hx386_0
                obtain rfl : ad379 = ad386 := (by injection e386)
                replace hx386_0 := (HB.out.cell (World.block_lt_of_cell? w _ hx386_0)).trans hx386_0
                replace hx386_1 := (HB.out.cell (World.block_lt_of_cell? w _ hx386_1)).trans hx386_1
                replace hx386_2 := (HB.out.cell (World.block_lt_of_cell? w _ hx386_2)).trans hx386_2
                replace p386 := eq_true p386
                replace q386 := eq_true q386
                have p387 : 0 ≤ ((ji31) : Int) := of_decide_eq_true (by assumption)
                have q387 : (ji31) < (l0_1.length : Int) := of_decide_eq_true (by assumption)
                obtain ⟨ad387, e387, hx387_0, hx387_1, hx387_2⟩ := at_T36 HR0_1.out (ji31) p387 q387
                have hw387_2 := hx387_2
                have hw387_1 := hx387_1
                have hw387_0 := hx387_0
                obtain rfl : ad379 = ad387 := (by injection e387)
                replace hx387_0 := (HB.out.cell (World.block_lt_of_cell? w _ hx387_0)).trans hx387_0
                replace hx387_1 := (HB.out.cell (World.block_lt_of_cell? w _ hx387_1)).trans hx387_1
                replace hx387_2 := (HB.out.cell (World.block_lt_of_cell? w _ hx387_2)).trans hx387_2
                replace p387 := eq_true p387
                replace q387 := eq_true q387
                refine start_ (n := 12) (S := fun w' => w'.cell? ⟨gb377, 0, none⟩ = some (.int .i64 a0_0) ∧ w'.cell? ⟨gb377, 1, none⟩ = some (.slice (some ad379) l0_1.length c0_1) ∧ w'.cell? (ad379.add ((x4_1).toNat * 3)) = some (.int .i64 ((rd_T36 l0_1 x4_1).f0)) ∧ w'.cell? ⟨(ad379.add ((x4_1).toNat * 3)).block, (ad379.add ((x4_1).toNat * 3)).off + 1, none⟩ = some (.int .i64 ((rd_T36 l0_1 x4_1).f1)) ∧ w'.cell? ⟨(ad379.add ((x4_1).toNat * 3)).block, (ad379.add ((x4_1).toNat * 3)).off + 2, none⟩ = some (.int .i64 ((rd_T36 l0_1 x4_1).f2)) ∧ w'.cell? (ad379.add (((ji31)).toNat * 3)) = some (.int .i64 ((rd_T36 l0_1 (ji31)).f0)) ∧ w'.cell? ⟨(ad379.add (((ji31)).toNat * 3)).block, (ad379.add (((ji31)).toNat * 3)).off + 1, none⟩ = some (.int .i64 ((rd_T36 l0_1 (ji31)).f1)) ∧ w'.cell? ⟨(ad379.add (((ji31)).toNat * 3)).block, (ad379.add (((ji31)).toNat * 3)).off + 2, none⟩ = some (.int .i64 ((rd_T36 l0_1 (ji31)).f2))) (ds := []) #[false, false, false, false, false, false, false, false, false, false, false, false] (by kernel_rfl) rfl rfl ⟨(zKc BK377.out 0).trans rfl, (zKc BK377.out 1).trans rfl, ((HB.out.cell (World.block_lt_of_cell? w _ hw386_0)).trans hw386_0), ((HB.out.cell (World.block_lt_of_cell? w _ hw386_1)).trans hw386_1), ((HB.out.cell (World.block_lt_of_cell? w _ hw386_2)).trans hw386_2), ((HB.out.cell (World.block_lt_of_cell? w _ hw387_0)).trans hw387_0), ((HB.out.cell (World.block_lt_of_cell? w _ hw387_1)).trans hw387_1), ((HB.out.cell (World.block_lt_of_cell? w _ hw387_2)).trans hw387_2)⟩ (fun hHeld => ?_); refine with_tabW filigreeref04_Right.tab13 filigreeref04_Right.bits13 (fun HT_ HW_ => ?_)
                generalize wc.drew = w38 at BK377 HB hx386_0 hx386_1 hx386_2 hx387_0 hx387_1 hx387_2 hHeld ⊢
                refine pure_ (i := 0) (N := some 63) (v := ?_) (a' := ?_) #[true, false, false, false, false, false, false, false, false, false, false, false] rfl rfl (any_of HT_.out (by kernel_rfl)) (fun _ _ _ h => h) (Or.inl ⟨by rfl, ?_⟩) ?_ ?_
                rotate_left
                · intro w'
                  go_simp
                  with_reducible rfl
                rotate_left
                · simp only [Act.put, zSa, zSb, zSc, i64_w, i32_w]
                  rfl
                refine pure_ (i := 2) (N := some 65) (v := ?_) (a' := ?_) #[true, false, true, false, false, false, false, false, false, false, false, false] rfl rfl (any_of HT_.out (by kernel_rfl)) (fun _ _ _ h => h) (Or.inl ⟨by rfl, ?_⟩) ?_ ?_
                rotate_left
                · intro w'
                  go_simp
                  with_reducible rfl
                rotate_left
                · simp only [Act.put, zSa, zSb, zSc, i64_w, i32_w]
                  rfl
                refine pure_ (i := 5) (N := some 68) (v := ?_) (a' := ?_) #[true, false, true, false, false, true, false, false, false, false, false, false] rfl rfl (any_of HT_.out (by kernel_rfl)) (fun _ _ _ h => h) (Or.inl ⟨by rfl, ?_⟩) ?_ ?_
                rotate_left
                · intro w'
                  go_simp
                  with_reducible rfl
                rotate_left
                · simp only [Act.put, zSa, zSb, zSc, i64_w, i32_w]
                  rfl
                refine pure_ (i := 7) (N := some 70) (v := ?_) (a' := ?_) #[true, false, true, false, false, true, false, true, false, false, false, false] rfl rfl (any_of HT_.out (by kernel_rfl)) (fun _ _ _ h => h) (Or.inl ⟨by rfl, ?_⟩) ?_ ?_
                rotate_left
                · intro w'
                  go_simp
                  with_reducible rfl
                rotate_left
                · simp only [Act.put, zSa, zSb, zSc, i64_w, i32_w]
                  rfl
                refine pure_ (i := 8) (N := some 71) (v := ?_) (a' := ?_) #[true, false, true, false, false, true, false, true, true, false, false, false] rfl rfl (any_of HT_.out (by kernel_rfl)) (fun _ _ _ h => h) (Or.inl ⟨by rfl, ?_⟩) ?_ ?_
                rotate_left
                · intro w'
                  go_simp
                  with_reducible rfl
                rotate_left
                · simp only [Act.put, zSa, zSb, zSc, i64_w, i32_w]
                  rfl
                refine take_ (i := 1) (N := some 64) (v := ?_) (a' := ?_) #[true, true, true, false, false, true, false, true, true, false, false, false] rfl rfl (take_ofW HT_.out HW_.out (by kernel_rfl)) (fun _ _ _ h => h) (Or.inl ⟨by rfl, ?_⟩) hHeld ?_ ?_
                rotate_left
                · rintro w' ⟨s0, s1, s2, s3, s4, s5, s6, s7⟩
                  go_simp
                  with_reducible rfl
                rotate_left
                · simp only [Act.put, zSa, zSb, zSc, i64_w, i32_w]
                  rfl
                refine pure_ (i := 3) (N := some 66) (v := ?_) (a' := ?_) #[true, true, true, true, false, true, false, true, true, false, false, false] rfl rfl (any_of HT_.out (by kernel_rfl)) (fun _ _ _ h => h) (Or.inl ⟨by rfl, ?_⟩) ?_ ?_
                rotate_left
                · intro w'
                  go_simp
                  with_reducible rfl
                rotate_left
                · simp only [Act.put, zSa, zSb, zSc, i64_w, i32_w]
                  rfl
                refine take_ (i := 4) (N := some 67) (v := ?_) (a' := ?_) #[true, true, true, true, true, true, false, true, true, false, false, false] rfl rfl (take_ofW HT_.out HW_.out (by kernel_rfl)) (fun _ _ _ h => h) (Or.inl ⟨by rfl, ?_⟩) hHeld ?_ ?_
                rotate_left
                · rintro w' ⟨s0, s1, s2, s3, s4, s5, s6, s7⟩
                  go_simp
                  with_reducible rfl
                rotate_left
                · simp only [Act.put, zSa, zSb, zSc, i64_w, i32_w]
                  rfl
                refine take_ (i := 6) (N := some 69) (v := ?_) (a' := ?_) #[true, true, true, true, true, true, true, true, true, false, false, false] rfl rfl (take_ofW HT_.out HW_.out (by kernel_rfl)) (fun _ _ _ h => h) (Or.inl ⟨by rfl, ?_⟩) hHeld ?_ ?_
                rotate_left
                · rintro w' ⟨s0, s1, s2, s3, s4, s5, s6, s7⟩
                  go_simp
                  with_reducible rfl
                rotate_left
                · simp only [Act.put, zSa, zSb, zSc, i64_w, i32_w]
                  rfl
                refine pure_ (i := 9) (N := some 72) (v := ?_) (a' := ?_) #[true, true, true, true, true, true, true, true, true, true, false, false] rfl rfl (any_of HT_.out (by kernel_rfl)) (fun _ _ _ h => h) (Or.inl ⟨by rfl, ?_⟩) ?_ ?_
                rotate_left
                · intro w'
                  go_simp
                  with_reducible rfl
                rotate_left
                · simp only [Act.put, zSa, zSb, zSc, i64_w, i32_w]
                  rfl
                refine take_ (i := 10) (N := some 73) (v := ?_) (a' := ?_) #[true, true, true, true, true, true, true, true, true, true, true, false] rfl rfl (take_ofW HT_.out HW_.out (by kernel_rfl)) (fun _ _ _ h => h) (Or.inl ⟨by rfl, ?_⟩) hHeld ?_ ?_
                rotate_left
                · rintro w' ⟨s0, s1, s2, s3, s4, s5, s6, s7⟩
                  go_simp
                  with_reducible rfl
                rotate_left
                · simp only [Act.put, zSa, zSb, zSc, i64_w, i32_w]
                  rfl
                refine one_ (i := 11) (N := some 74) #[true, true, true, true, true, true, true, true, true, true, true, true] rfl rfl (one_of HT_.out (by kernel_rfl)) (by decide) (fun K hK => ?_)
                refine goes_ Try.func37 (by kernel_rfl) rfl #[.agg #[.int .i64 ((rd_T36 l0_1 x4_1).f0), .int .i64 ((rd_T36 l0_1 x4_1).f1), .int .i64 ((rd_T36 l0_1 x4_1).f2)], .agg #[.int .i64 ((rd_T36 l0_1 (ji31)).f0), .int .i64 ((rd_T36 l0_1 (ji31)).f1), .int .i64 ((rd_T36 l0_1 (ji31)).f2)]] (by rfl) rfl rfl (by (try simp only [zMa, zMc, zMn]); first | done | (simp only [hji31]; rfl) | rfl | (simp only [zLd, zLt]; rfl)) ?_
                with_reducible refine (filigreeref04_below.calls ((rd_T36 l0_1 x4_1).f0) ((rd_T36 l0_1 x4_1).f1) ((rd_T36 l0_1 x4_1).f2) ((rd_T36 l0_1 (ji31)).f0) ((rd_T36 l0_1 (ji31)).f1) ((rd_T36 l0_1 (ji31)).f2) false _ A34.out).mono ?_
                rintro e w39 ⟨rfl, hb⟩
                refine ⟨_, rfl, ?_⟩
                replace BK377 := zMk (zKb (g := gb377) (o := .cells #[.int .i64 a0_0, .slice (some ad379) l0_1.length c0_1] 24 (0, 0)) (by (with_reducible repeat (first | refine zKn ?_ _ | refine zKd ?_ | refine zKa ?_ _)); exact BK377.out) hb)
                replace HB := zMk (zBt (by exact uT HB.out) hb)
                refine hK.out _ _ ⟨(zKc BK377.out 0).trans rfl, (zKc BK377.out 1).trans rfl, ((HB.out.cell (World.block_lt_of_cell? w _ hw386_0)).trans hw386_0), ((HB.out.cell (World.block_lt_of_cell? w _ hw386_1)).trans hw386_1), ((HB.out.cell (World.block_lt_of_cell? w _ hw386_2)).trans hw386_2), ((HB.out.cell (World.block_lt_of_cell? w _ hw387_0)).trans hw387_0), ((HB.out.cell (World.block_lt_of_cell? w _ hw387_1)).trans hw387_1), ((HB.out.cell (World.block_lt_of_cell? w _ hw387_2)).trans hw387_2)⟩ (fun hHeld => ?_)
                clear hK K
                refine norm_ (a' := ?_) ?_ ?_
                rotate_left
                · show Act.put _ (some 74) _ = _
                  simp only [Act.put, zSa, zSb, zSc, i64_w, i32_w]
                  rfl
                refine done_ (done_of HT_.out (by kernel_rfl)) ?_
                try go_wp2
                go_ret
                exact ⟨by first | rfl | (simp [errW_none, errW_some] <;> rfl) | (simp only [← hji31]; first | rfl | (simp [errW_none, errW_some] <;> rfl)) | (simp [*, errW_none, errW_some] <;> rfl), by exact uT HB.out⟩
            · replace c28 := Bool.eq_false_iff.mpr c28
              subst c28
              replace H : (filigreeref04_Right.l0 kj14 (wrap64 (x4_1 + 1)) a0_0 l0_1) = some r := by rw [if_neg (show ¬ (false = true) by decide)] at H; exact H
              have H' := zMk H
              clear H
              go_wp2
              go_roundg kj14
              case measure => have := HK1.out; have := HJ14.out; omega
              case rel => exact ⟨(wrap64 (x4_1 + 1)), (by first | rfl | (simp; done) | (simp [*]; done)), H', ⟨by have := HK1.out; have := HJ14.out; omega⟩, ⟨by (with_reducible repeat (first | refine zKn ?_ _ | refine zKd ?_ | refine zKa ?_ _)); exact BK377.out⟩, ⟨by exact uT HB.out⟩⟩
      · rw [if_neg c9] at H
        have c9b0 : (t380 == 0) = false := beq_eq_false_iff_ne.mpr c9
        have c9b1 : (t380 != 0) = true := bne_iff_ne.mpr c9
        obtain rfl := zOi H
        have hcz40_0 : wr.cell? ⟨gb377, 0, none⟩ = some (.int .i64 a0_0) := (zKc BK377.out 0).trans rfl
        have hcz40_1 : wr.cell? ⟨gb377, 1, none⟩ = some (.slice A0_1 l0_1.length c0_1) := (zKc BK377.out 1).trans rfl
        have hfz40_0 := zKf BK377.out 0
        have hfz40_1 := zKf BK377.out 1
        try go_wp2
        replace BK377 := zMk (zKd BK377.out)
        replace HB := zMk (zBd HB.out)
        have p379 : 0 ≤ (x4_1 : Int) := of_decide_eq_true (by assumption)
        have q379 : x4_1 < (l0_1.length : Int) := of_decide_eq_true (by assumption)
        obtain ⟨ad379, e379, hx379_0, hx379_1, hx379_2⟩ := at_T36 HR0_1.out x4_1 p379 q379
        have hw379_2 := hx379_2
        have hw379_1 := hx379_1
        have hw379_0 := hx379_0
        cases e379
        replace hx379_0 := (HB.out.cell (World.block_lt_of_cell? w _ hx379_0)).trans hx379_0
        replace hx379_1 := (HB.out.cell (World.block_lt_of_cell? w _ hx379_1)).trans hx379_1
        replace hx379_2 := (HB.out.cell (World.block_lt_of_cell? w _ hx379_2)).trans hx379_2
        replace p379 := eq_true p379
        replace q379 := eq_true q379
        refine start_ (n := 9) (S := fun w' => w'.cell? ⟨gb377, 0, none⟩ = some (.int .i64 a0_0) ∧ w'.cell? ⟨gb377, 1, none⟩ = some (.slice (some ad379) l0_1.length c0_1) ∧ w'.cell? (ad379.add ((x4_1).toNat * 3)) = some (.int .i64 ((rd_T36 l0_1 x4_1).f0)) ∧ w'.cell? ⟨(ad379.add ((x4_1).toNat * 3)).block, (ad379.add ((x4_1).toNat * 3)).off + 1, none⟩ = some (.int .i64 ((rd_T36 l0_1 x4_1).f1)) ∧ w'.cell? ⟨(ad379.add ((x4_1).toNat * 3)).block, (ad379.add ((x4_1).toNat * 3)).off + 2, none⟩ = some (.int .i64 ((rd_T36 l0_1 x4_1).f2))) (ds := []) #[false, false, false, false, false, false, false, false, false] (by kernel_rfl) rfl rfl ⟨(zKc BK377.out 0).trans rfl, (zKc BK377.out 1).trans rfl, ((HB.out.cell (World.block_lt_of_cell? w _ hw379_0)).trans hw379_0), ((HB.out.cell (World.block_lt_of_cell? w _ hw379_1)).trans hw379_1), ((HB.out.cell (World.block_lt_of_cell? w _ hw379_2)).trans hw379_2)⟩ (fun hHeld => ?_); refine with_tabW filigreeref04_Right.tab7 filigreeref04_Right.bits7 (fun HT_ HW_ => ?_)
        generalize wr.drew = w41 at BK377 HB hx379_0 hx379_1 hx379_2 hHeld ⊢
        refine pure_ (i := 0) (N := some 22) (v := ?_) (a' := ?_) #[true, false, false, false, false, false, false, false, false] rfl rfl (any_of HT_.out (by kernel_rfl)) (fun _ _ _ h => h) (Or.inl ⟨by rfl, ?_⟩) ?_ ?_
        rotate_left
        · intro w'
          go_simp
          with_reducible rfl
        rotate_left
        · simp only [Act.put, zSa, zSb, zSc, i64_w, i32_w]
          rfl
        refine pure_ (i := 2) (N := some 24) (v := ?_) (a' := ?_) #[true, false, true, false, false, false, false, false, false] rfl rfl (any_of HT_.out (by kernel_rfl)) (fun _ _ _ h => h) (Or.inl ⟨by rfl, ?_⟩) ?_ ?_
        rotate_left
        · intro w'
          go_simp
          with_reducible rfl
        rotate_left
        · simp only [Act.put, zSa, zSb, zSc, i64_w, i32_w]
          rfl
        refine pure_ (i := 4) (N := some 26) (v := ?_) (a' := ?_) #[true, false, true, false, true, false, false, false, false] rfl rfl (any_of HT_.out (by kernel_rfl)) (fun _ _ _ h => h) (Or.inl ⟨by rfl, ?_⟩) ?_ ?_
        rotate_left
        · intro w'
          go_simp
          with_reducible rfl
        rotate_left
        · simp only [Act.put, zSa, zSb, zSc, i64_w, i32_w]
          rfl
        refine take_ (i := 1) (N := some 23) (v := ?_) (a' := ?_) #[true, true, true, false, true, false, false, false, false] rfl rfl (take_ofW HT_.out HW_.out (by kernel_rfl)) (fun _ _ _ h => h) (Or.inl ⟨by rfl, ?_⟩) hHeld ?_ ?_
        rotate_left
        · rintro w' ⟨s0, s1, s2, s3, s4⟩
          go_simp
          with_reducible rfl
        rotate_left
        · simp only [Act.put, zSa, zSb, zSc, i64_w, i32_w]
          rfl
        refine take_ (i := 3) (N := some 25) (v := ?_) (a' := ?_) #[true, true, true, true, true, false, false, false, false] rfl rfl (take_ofW HT_.out HW_.out (by kernel_rfl)) (fun _ _ _ h => h) (Or.inl ⟨by rfl, ?_⟩) hHeld ?_ ?_
        rotate_left
        · rintro w' ⟨s0, s1, s2, s3, s4⟩
          go_simp
          with_reducible rfl
        rotate_left
        · simp only [Act.put, zSa, zSb, zSc, i64_w, i32_w]
          rfl
        refine pure_ (i := 5) (N := some 27) (v := ?_) (a' := ?_) #[true, true, true, true, true, true, false, false, false] rfl rfl (any_of HT_.out (by kernel_rfl)) (fun _ _ _ h => h) (Or.inl ⟨by rfl, ?_⟩) ?_ ?_
        rotate_left
        · intro w'
          go_simp
          with_reducible rfl
        rotate_left
        · simp only [Act.put, zSa, zSb, zSc, i64_w, i32_w]
          rfl
        refine take_ (i := 6) (N := some 28) (v := ?_) (a' := ?_) #[true, true, true, true, true, true, true, false, false] rfl rfl (take_ofW HT_.out HW_.out (by kernel_rfl)) (fun _ _ _ h => h) (Or.inl ⟨by rfl, ?_⟩) hHeld ?_ ?_
        rotate_left
        · rintro w' ⟨s0, s1, s2, s3, s4⟩
          go_simp
          with_reducible rfl
        rotate_left
        · simp only [Act.put, zSa, zSb, zSc, i64_w, i32_w]
          rfl
        refine one_ (i := 7) (N := some 29) #[true, true, true, true, true, true, true, true, false] rfl rfl (one_of HT_.out (by kernel_rfl)) (by decide) (fun K hK => ?_)
        refine goes_ Try.func36 (by kernel_rfl) rfl #[.int .i64 a0_0, .agg #[.int .i64 ((rd_T36 l0_1 x4_1).f0), .int .i64 ((rd_T36 l0_1 x4_1).f1), .int .i64 ((rd_T36 l0_1 x4_1).f2)]] (by rfl) rfl rfl (by (try simp only [zMa, zMc, zMn]); first | done | rfl | (simp only [zLd, zLt]; rfl)) ?_
        with_reducible refine (filigreeref04_edge.calls k1 a0_0 ((rd_T36 l0_1 x4_1).f0) ((rd_T36 l0_1 x4_1).f1) ((rd_T36 l0_1 x4_1).f2) t380 _ A8.out).mono ?_
        rintro e w42 ⟨rfl, hb⟩
        refine ⟨_, rfl, ?_⟩
        replace BK377 := zMk (zKb (g := gb377) (o := .cells #[.int .i64 a0_0, .slice (some ad379) l0_1.length c0_1] 24 (0, 0)) (by (with_reducible repeat (first | refine zKn ?_ _ | refine zKd ?_ | refine zKa ?_ _)); exact BK377.out) hb)
        replace HB := zMk (zBt (by exact uT HB.out) hb)
        refine hK.out _ _ ⟨(zKc BK377.out 0).trans rfl, (zKc BK377.out 1).trans rfl, ((HB.out.cell (World.block_lt_of_cell? w _ hw379_0)).trans hw379_0), ((HB.out.cell (World.block_lt_of_cell? w _ hw379_1)).trans hw379_1), ((HB.out.cell (World.block_lt_of_cell? w _ hw379_2)).trans hw379_2)⟩ (fun hHeld => ?_)
        clear hK K
        refine norm_ (a' := ?_) ?_ ?_
        rotate_left
        · show Act.put _ (some 29) _ = _
          simp only [Act.put, zSa, zSb, zSc, i64_w, i32_w]
          rfl
        refine pure_ (i := 8) (N := some 5) (v := ?_) (a' := ?_) #[true, true, true, true, true, true, true, true, true] rfl rfl (any_of HT_.out (by kernel_rfl)) (fun _ _ _ h => h) (Or.inl ⟨by rfl, ?_⟩) ?_ ?_
        rotate_left
        · intro w'
          go_simp
          with_reducible rfl
        rotate_left
        · simp only [Act.put, zSa, zSb, zSc, i64_w, i32_w]
          rfl
        refine done_ (done_of HT_.out (by kernel_rfl)) ?_
        try go_wp2
        go_ret
        exact ⟨by first | rfl | (simp [errW_none, errW_some] <;> rfl) | (simp [*, errW_none, errW_some] <;> rfl), by exact uT HB.out⟩
    · rw [if_neg c6] at H
      have c6b0 : decide (x4_1 < (l0_1.length : Int)) = false := decide_eq_false c6
      clear c6
      obtain rfl := zOi H
      have hcz43_0 : wr.cell? ⟨gb377, 0, none⟩ = some (.int .i64 a0_0) := (zKc BK377.out 0).trans rfl
      have hcz43_1 : wr.cell? ⟨gb377, 1, none⟩ = some (.slice A0_1 l0_1.length c0_1) := (zKc BK377.out 1).trans rfl
      have hfz43_0 := zKf BK377.out 0
      have hfz43_1 := zKf BK377.out 1
      go_wp2
      go_ret
      exact ⟨by first | rfl | (simp [errW_none, errW_some] <;> rfl) | (simp [*, errW_none, errW_some] <;> rfl), by exact uT HB.out⟩
  · rw [if_neg c3] at H
    have c3b0 : (t378 == 0) = false := beq_eq_false_iff_ne.mpr c3
    have c3b1 : (t378 != 0) = true := bne_iff_ne.mpr c3
    obtain rfl := zOi H
    go_enter Try.func12, Try.ntmps12
    go_wp2_with (first | ((with_reducible refine gate_dst (N := 1) rfl ?_); refine box_event ?hg (N := 1) ?hd (cs := #[.int .i64 a0_0, .slice A0_1 l0_1.length c0_1]) (t := 24) ?hr ?_; (case hd => rfl); (case hg => rfl); (case hr => first | (go_simp; done)|(go_simp; rfl)|(go_simp; rw [show ∀ x : Int, IntKind.u32.wrap (IntKind.u8.wrap x) = x % 256 from fun x => (by show (x % 256) % 4294967296 = x % 256; omega)])); intro gb377 hg w44 hbox hb; have BK377 := zMk (hbox); have GW377 := zMk ((by rw [hg]; exact (zBs (by exact uT HB.out)) : w.heap.size ≤ gb377)); have GE377 := zMk ((by rw [hg]; exact (zBs (by exact uT HB.out)) : w.heap.size ≤ gb377)); have IGE377 := ownGe GE377.out; replace HB := zMk (zBt (by exact uT HB.out) hb); clear hb hbox hg; have hcz45_0 : w44.cell? ⟨gb377, 0, none⟩ = some (.int .i64 a0_0) := (zKc BK377.out 0).trans rfl; have hcz45_1 : w44.cell? ⟨gb377, 1, none⟩ = some (.slice A0_1 l0_1.length c0_1) := (zKc BK377.out 1).trans rfl; have hfz45_0 := zKf BK377.out 0; have hfz45_1 := zKf BK377.out 1)|((with_reducible refine gate_callee (f := 35) rfl ?_); refine goesL_ (some 11) rfl rfl Try.func35 (by kernel_rfl) rfl #[.int .i64 a0_0, .int .i64 (l0_1.length : Int)] rfl (by (try simp only [zMa, zMc, zMn]); first |  done|  rfl|  (simp only [zLd, zLt]; rfl)) ?_; (with_reducible refine (filigreeref04_many.calls a0_0 (l0_1.length : Int) t378 _ A2.out).mono ?_); rintro e w' ⟨rfl, ⟨nd, rfl⟩⟩; refine ⟨_, rfl, ?_⟩))
    go_ret
    exact ⟨by first | rfl | (simp [errW_none, errW_some] <;> rfl) | (simp [*, errW_none, errW_some] <;> rfl), by exact uT HB.out⟩

end Go.Proofs.Yteicpdkembmilaa.A
