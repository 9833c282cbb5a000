/- Lemmas for the statement: the walks of the functions that it reaches, and plain laws. -/
import Derived.Shelf.Strings.Builder1
import Derived.Shelf.Strings.Builder2
import Derived.Shelf.Strings.OnBuilder
import Derived.Shelf.Small.Bits
import Derived.Shelf.Strings.BuilderF
import Derived.Shelf.Strconv.Itoa0
import Derived.Shelf.Strconv.Itoa1
import Derived.Shelf.LaysM
import Derived.Shelf.Strconv.Itoa2
import Derived.Shelf.Strconv.Itoa3
import Derived.Shelf.Strings.Prefix
import Derived.Shelf.Bits.Mul64
import Derived.Shelf.Strings.Repeat
import Derived.Ground.Names2Prog
import Derived.Shelf.Slices.ReverseS
import Derived.Shelf.Slices.SearchI
import Derived.Shelf.Slices.Cells
import Derived.Ground.SlgnProg
import Derived.Shelf.SlicesE.Clone
import Derived.Test.YtnjmnicgknggfaaDoorProg
import Derived.Test.YtnjmnicgknggfaaDoorVMore
import Derived.Test.YtnjmnicgknggfaaDoorVN
import Derived.Below
import Derived.Deep.Draws
import Derived.Deep.AppendLies
import Derived.Maps.AppendAt
import Derived.OwnWalk
import Derived.Laws.BytesArg
import Derived.Laws.MakeOwn
import Derived.Laws.OwnMore
import Derived.Deep.OwnRows
import Derived.Tactics
import Derived.Lib.ConvBytes
import Derived.Laws.Slices
import Derived.WalkKit
import Derived.KernelRfl
import Derived.RowKit3
import Derived.Deep.LoopGhost
import Derived.Deep.QuietTactic
import Derived.BigQuiet
import Derived.WideLaws
import Derived.Deep.DeepCutAuto
import Derived.Deep.CutBlock
import Derived.Deep.RegionHeld3
import Derived.Laws.Rows
import Derived.Lib.AppendStr
import Derived.ArgAppend
import Derived.Laws.IdiomCopy
import Derived.OrdersHeld
import Derived.Laws.BitsLemmas
import Derived.RowKit
import Derived.WalkSpells
import Derived.RangeFuncNested
import Derived.RangeFuncBound
import Derived.RangeFuncCalls
import Derived.RangeFuncLeaves
import Derived.Shelf.Abstract
import Derived.Shelf.RegionOpen
import Derived.OwnWalkIn
import Derived.TacticsInMore
import Derived.LoopNIn
import Derived.LoopIn
import Derived.StillTailTactics
import Derived.OrdersIn
import Derived.TacticsIn
import Derived.Deep.RegionWith
import Derived.Lib.SmallJoins
import Derived.Test.YtnjmnicgknggfaaDoorVWords
import Derived.Test.YtnjmnicgknggfaaDoorVLast
import Derived.Test.YtnjmnicgknggfaaDoorVTab
import Derived.Test.YtnjmnicgknggfaaDoorVQPut
import Derived.Test.YtnjmnicgknggfaaDoorVApart
import Derived.Test.YtnjmnicgknggfaaDoorVArr
import Derived.Test.YtnjmnicgknggfaaDoorVZeros
import Derived.Test.YtnjmnicgknggfaaDoorVFoot
import Derived.Test.YtnjmnicgknggfaaDoorVKept
import Derived.Test.YtnjmnicgknggfaaDoorVShare
import Derived.Test.YtnjmnicgknggfaaDoorVRepsOne
import Derived.Test.YtnjmnicgknggfaaDoorVGuard
import Derived.Test.YtnjmnicgknggfaaDoorVNEv
set_option linter.unusedVariables false
set_option linter.unusedSimpArgs false
namespace Go.Proofs
open Go.Shelf
def Tryd.lays156_ren : Go.Shelf.Ren := ⟨fun | 156 => 76 | 165 => 86 | 166 => 87 | 169 => 88 | 240 => 93 | 241 => 94 | 276 => 101 | 277 => 102 | n => n, fun | 31 => 78 | 9 => 9 | 3 => 3 | 4 => 4 | 0 => 0 | 20 => 20 | 72 => 89 | 76 => 93 | 70 => 87 | 37 => 67 | 75 => 92 | 127 => 100 | 164 => 109 | 5 => 5 | 80 => 95 | n => n, fun | n => n⟩
theorem Tryd.lays156 : Go.Proofs.Lays.n156 Tryd.prog Tryd.lays156_ren := {
  mixed := by kernel_rfl
  f156 := Tryd.func76.trans (congrArg some (by kernel_rfl))
  f165 := Tryd.func86.trans (congrArg some (by kernel_rfl))
  f166 := Tryd.func87.trans (congrArg some (by kernel_rfl))
  f169 := Tryd.func88.trans (congrArg some (by kernel_rfl))
  f240 := Tryd.func93.trans (congrArg some (by kernel_rfl))
  f241 := Tryd.func94.trans (congrArg some (by kernel_rfl))
  f276 := Tryd.func101.trans (congrArg some (by kernel_rfl))
  f277 := Tryd.func102.trans (congrArg some (by kernel_rfl))
  t0 := Tryd.underlying0
  a0 := Tryd.isAgg0
  z0 := Tryd.sizeOf0
  v0 := Tryd.zeroValue0
  t3 := Tryd.underlying3
  a3 := Tryd.isAgg3
  z3 := Tryd.sizeOf3
  v3 := Tryd.zeroValue3
  t4 := Tryd.underlying4
  a4 := Tryd.isAgg4
  z4 := Tryd.sizeOf4
  v4 := Tryd.zeroValue4
  t9 := Tryd.underlying9
  a9 := Tryd.isAgg9
  z9 := Tryd.sizeOf9
  v9 := Tryd.zeroValue9
  t20 := Tryd.underlying20
  a20 := Tryd.isAgg20
  z20 := Tryd.sizeOf20
  v20 := Tryd.zeroValue20
  t31 := Tryd.underlying78
  a31 := Tryd.isAgg78
  z31 := Tryd.sizeOf78
  v31 := Tryd.zeroValue78
  t37 := Tryd.underlying67
  a37 := Tryd.isAgg67
  z37 := Tryd.sizeOf67
  v37 := Tryd.zeroValue67
  t70 := Tryd.underlying87
  a70 := Tryd.isAgg87
  z70 := Tryd.sizeOf87
  v70 := Tryd.zeroValue87
  t72 := Tryd.underlying89
  a72 := Tryd.isAgg89
  z72 := Tryd.sizeOf89
  v72 := Tryd.zeroValue89
  t75 := Tryd.underlying92
  a75 := Tryd.isAgg92
  z75 := Tryd.sizeOf92
  v75 := Tryd.zeroValue92
  t76 := Tryd.underlying93
  a76 := Tryd.isAgg93
  z76 := Tryd.sizeOf93
  v76 := Tryd.zeroValue93
  t127 := Tryd.underlying100
  a127 := Tryd.isAgg100
  z127 := Tryd.sizeOf100
  v127 := Tryd.zeroValue100
  t164 := Tryd.underlying109
  a164 := Tryd.isAgg109
  z164 := Tryd.sizeOf109
  v164 := Tryd.zeroValue109 }
theorem Tryd.Builder_Extra_156 : Builder.Extra Tryd.prog Tryd.lays156_ren := {
  sizeBuilder := by kernel_rfl
  liesBuilder := by kernel_rfl
  t5 := Tryd.underlying5
  a5 := Tryd.isAgg5
  z5 := Tryd.sizeOf5
  v5 := Tryd.zeroValue5
  infoByte := by kernel_rfl
  cellsByte := by kernel_rfl
  sizeByte := by kernel_rfl
  neB5 := by decide }
open Go.RowKit in
theorem Tryd.strings_Join_none (a : Option Addr) (c : Nat) (sep : ByteArray) (w : World) :
    Calls Tryd.prog 76 #[.slice a 0 c, .string sep] w fun e w' => e = .returned (.string ⟨#[]⟩) ∧ w' = w := Any.strings_Join_none Tryd.lays156 Tryd.Builder_Extra_156 a c sep w
open Go.RowKit in
theorem Tryd.strings_Join (bk o c : Nat) (xs : List ByteArray) (sep : ByteArray) (w : World) (hcells : ∀ (j : Nat) x, xs[j]? = some x → w.cell? ⟨bk, o + j, none⟩ = some (.string x)) (hbk : bk < w.heap.size) (hN : xs.length ≤ 140737488355328) (hcap : xs.length ≤ c) (hlen : (Lib.join (xs.map (·.data.toList)) sep.data.toList).length ≤ 140737488355328) :
    Calls Tryd.prog 76 #[.slice (some ⟨bk, o, none⟩) xs.length c, .string sep] w fun e w' => e = .returned (.string ⟨(Lib.join (xs.map (·.data.toList)) sep.data.toList).toArray⟩) ∧ Below w.heap.size w w' := Any.strings_Join Tryd.lays156 Tryd.Builder_Extra_156 bk o c xs sep w hcells hbk hN hcap hlen
def Tryd.laysM171_ren : Go.Shelf.Ren := ⟨fun | 171 => 74 | 243 => 85 | 246 => 92 | 283 => 97 | 284 => 98 | 285 => 99 | 286 => 100 | 129 => 104 | 317 => 103 | 318 => 105 | 319 => 106 | 320 => 107 | 337 => 108 | 338 => 109 | n => n, fun | 3 => 3 | 9 => 9 | 2 => 2 | 4 => 4 | 171 => 104 | 0 => 0 | 53 => 47 | 37 => 67 | 5 => 5 | 173 => 107 | 212 => 114 | 51 => 58 | 20 => 20 | 213 => 115 | 46 => 61 | 232 => 117 | 233 => 118 | n => n, fun | 17 => 0 | 18 => 2 | 19 => 3 | n => n⟩
theorem Tryd.laysM171 : Go.Proofs.LaysM.n171 Tryd.prog Tryd.laysM171_ren := {
  mixed := by kernel_rfl
  f129 := Tryd.func104.trans (congrArg some (by kernel_rfl))
  f171 := Tryd.func74.trans (congrArg some (by kernel_rfl))
  f243 := Tryd.func85.trans (congrArg some (by kernel_rfl))
  f246 := Tryd.func92.trans (congrArg some (by kernel_rfl))
  f283 := Tryd.func97.trans (congrArg some (by kernel_rfl))
  f284 := Tryd.func98.trans (congrArg some (by kernel_rfl))
  f285 := Tryd.func99.trans (congrArg some (by kernel_rfl))
  f286 := Tryd.func100.trans (congrArg some (by kernel_rfl))
  f317 := Tryd.func103.trans (congrArg some (by kernel_rfl))
  f318 := Tryd.func105.trans (congrArg some (by kernel_rfl))
  f319 := Tryd.func106.trans (congrArg some (by kernel_rfl))
  f320 := Tryd.func107.trans (congrArg some (by kernel_rfl))
  f337 := Tryd.func108.trans (congrArg some (by kernel_rfl))
  f338 := Tryd.func109.trans (congrArg some (by kernel_rfl))
  t0 := Tryd.underlying0
  a0 := Tryd.isAgg0
  z0 := Tryd.sizeOf0
  v0 := Tryd.zeroValue0
  t2 := Tryd.underlying2
  a2 := Tryd.isAgg2
  z2 := Tryd.sizeOf2
  v2 := Tryd.zeroValue2
  t3 := Tryd.underlying3
  a3 := Tryd.isAgg3
  z3 := Tryd.sizeOf3
  v3 := Tryd.zeroValue3
  t4 := Tryd.underlying4
  a4 := Tryd.isAgg4
  z4 := Tryd.sizeOf4
  v4 := Tryd.zeroValue4
  t5 := Tryd.underlying5
  a5 := Tryd.isAgg5
  z5 := Tryd.sizeOf5
  v5 := Tryd.zeroValue5
  t9 := Tryd.underlying9
  a9 := Tryd.isAgg9
  z9 := Tryd.sizeOf9
  v9 := Tryd.zeroValue9
  t20 := Tryd.underlying20
  a20 := Tryd.isAgg20
  z20 := Tryd.sizeOf20
  v20 := Tryd.zeroValue20
  t37 := Tryd.underlying67
  a37 := Tryd.isAgg67
  z37 := Tryd.sizeOf67
  v37 := Tryd.zeroValue67
  t46 := Tryd.underlying61
  a46 := Tryd.isAgg61
  z46 := Tryd.sizeOf61
  v46 := Tryd.zeroValue61
  t51 := Tryd.underlying58
  a51 := Tryd.isAgg58
  z51 := Tryd.sizeOf58
  v51 := Tryd.zeroValue58
  t53 := Tryd.underlying47
  a53 := Tryd.isAgg47
  z53 := Tryd.sizeOf47
  v53 := Tryd.zeroValue47
  t171 := Tryd.underlying104
  a171 := Tryd.isAgg104
  z171 := Tryd.sizeOf104
  v171 := Tryd.zeroValue104
  t173 := Tryd.underlying107
  a173 := Tryd.isAgg107
  z173 := Tryd.sizeOf107
  v173 := Tryd.zeroValue107
  t212 := Tryd.underlying114
  a212 := Tryd.isAgg114
  z212 := Tryd.sizeOf114
  v212 := Tryd.zeroValue114
  t213 := Tryd.underlying115
  a213 := Tryd.isAgg115
  z213 := Tryd.sizeOf115
  t232 := Tryd.underlying117
  a232 := Tryd.isAgg117
  z232 := Tryd.sizeOf117
  v232 := Tryd.zeroValue117
  t233 := Tryd.underlying118
  a233 := Tryd.isAgg118
  z233 := Tryd.sizeOf118
  v233 := Tryd.zeroValue118
  g17 := by kernel_rfl
  g18 := by kernel_rfl
  g19 := by kernel_rfl
  i0 := by kernel_rfl
  i2 := by kernel_rfl
  i3 := by kernel_rfl
  i4 := by kernel_rfl
  i5 := by kernel_rfl
  i9 := by kernel_rfl
  i20 := by kernel_rfl
  i37 := by kernel_rfl
  i46 := by kernel_rfl
  i51 := by kernel_rfl
  i53 := by kernel_rfl
  i171 := by kernel_rfl
  i173 := by kernel_rfl
  i212 := by kernel_rfl
  i232 := by kernel_rfl
  i233 := by kernel_rfl
  m17 := by kernel_rfl
  m18 := by kernel_rfl
  m19 := by kernel_rfl }
open Go.RowKit Go.Sort Go.Lib in
theorem Tryd.strconv_Itoa (n : Int) (h0 : -9223372036854775808 ≤ n) (h1 : n ≤ 9223372036854775807) (w : World) (htab : Lib.TabIs Tryd.prog w "internal/strconv.uint64pow10" .u64 Lib.pow10Tab) :
    Calls Tryd.prog 74 #[.int .i64 n] w fun e w' => e = .returned (.string ⟨(Lib.itoa n).toArray⟩) ∧ ∃ k os, w' = grow (w.drewN k) os := Any.strconv_Itoa Tryd.laysM171 n h0 h1 w htab
def Tryd.lays105_ren : Go.Shelf.Ren := ⟨fun | 105 => 77 | 212 => 89 | 99 => 90 | 165 => 86 | 166 => 87 | 170 => 91 | 169 => 88 | 263 => 95 | 264 => 96 | 206 => 84 | 240 => 93 | 241 => 94 | 276 => 101 | 277 => 102 | n => n, fun | 9 => 9 | 3 => 3 | 4 => 4 | 20 => 20 | 0 => 0 | 46 => 61 | 109 => 96 | 5 => 5 | 72 => 89 | 76 => 93 | 51 => 58 | 146 => 65 | 53 => 47 | 148 => 102 | 70 => 87 | 37 => 67 | 75 => 92 | 127 => 100 | 164 => 109 | 80 => 95 | n => n, fun | n => n⟩
theorem Tryd.lays105 : Go.Proofs.Lays.n105 Tryd.prog Tryd.lays105_ren := {
  mixed := by kernel_rfl
  f99 := Tryd.func90.trans (congrArg some (by kernel_rfl))
  f105 := Tryd.func77.trans (congrArg some (by kernel_rfl))
  f165 := Tryd.func86.trans (congrArg some (by kernel_rfl))
  f166 := Tryd.func87.trans (congrArg some (by kernel_rfl))
  f169 := Tryd.func88.trans (congrArg some (by kernel_rfl))
  f170 := Tryd.func91.trans (congrArg some (by kernel_rfl))
  f206 := Tryd.func84.trans (congrArg some (by kernel_rfl))
  f212 := Tryd.func89.trans (congrArg some (by kernel_rfl))
  f240 := Tryd.func93.trans (congrArg some (by kernel_rfl))
  f241 := Tryd.func94.trans (congrArg some (by kernel_rfl))
  f263 := Tryd.func95.trans (congrArg some (by kernel_rfl))
  f264 := Tryd.func96.trans (congrArg some (by kernel_rfl))
  f276 := Tryd.func101.trans (congrArg some (by kernel_rfl))
  f277 := Tryd.func102.trans (congrArg some (by kernel_rfl))
  t0 := Tryd.underlying0
  a0 := Tryd.isAgg0
  z0 := Tryd.sizeOf0
  v0 := Tryd.zeroValue0
  t3 := Tryd.underlying3
  a3 := Tryd.isAgg3
  z3 := Tryd.sizeOf3
  v3 := Tryd.zeroValue3
  t4 := Tryd.underlying4
  a4 := Tryd.isAgg4
  z4 := Tryd.sizeOf4
  v4 := Tryd.zeroValue4
  t5 := Tryd.underlying5
  a5 := Tryd.isAgg5
  z5 := Tryd.sizeOf5
  v5 := Tryd.zeroValue5
  t9 := Tryd.underlying9
  a9 := Tryd.isAgg9
  z9 := Tryd.sizeOf9
  v9 := Tryd.zeroValue9
  t20 := Tryd.underlying20
  a20 := Tryd.isAgg20
  z20 := Tryd.sizeOf20
  v20 := Tryd.zeroValue20
  t37 := Tryd.underlying67
  a37 := Tryd.isAgg67
  z37 := Tryd.sizeOf67
  v37 := Tryd.zeroValue67
  t46 := Tryd.underlying61
  a46 := Tryd.isAgg61
  z46 := Tryd.sizeOf61
  v46 := Tryd.zeroValue61
  t51 := Tryd.underlying58
  a51 := Tryd.isAgg58
  z51 := Tryd.sizeOf58
  v51 := Tryd.zeroValue58
  t53 := Tryd.underlying47
  a53 := Tryd.isAgg47
  z53 := Tryd.sizeOf47
  v53 := Tryd.zeroValue47
  t70 := Tryd.underlying87
  a70 := Tryd.isAgg87
  z70 := Tryd.sizeOf87
  v70 := Tryd.zeroValue87
  t72 := Tryd.underlying89
  a72 := Tryd.isAgg89
  z72 := Tryd.sizeOf89
  v72 := Tryd.zeroValue89
  t75 := Tryd.underlying92
  a75 := Tryd.isAgg92
  z75 := Tryd.sizeOf92
  v75 := Tryd.zeroValue92
  t76 := Tryd.underlying93
  a76 := Tryd.isAgg93
  z76 := Tryd.sizeOf93
  v76 := Tryd.zeroValue93
  t109 := Tryd.underlying96
  a109 := Tryd.isAgg96
  z109 := Tryd.sizeOf96
  v109 := Tryd.zeroValue96
  t127 := Tryd.underlying100
  a127 := Tryd.isAgg100
  z127 := Tryd.sizeOf100
  v127 := Tryd.zeroValue100
  t146 := Tryd.underlying65
  a146 := Tryd.isAgg65
  z146 := Tryd.sizeOf65
  v146 := Tryd.zeroValue65
  t148 := Tryd.underlying102
  a148 := Tryd.isAgg102
  z148 := Tryd.sizeOf102
  v148 := Tryd.zeroValue102
  t164 := Tryd.underlying109
  a164 := Tryd.isAgg109
  z164 := Tryd.sizeOf109
  v164 := Tryd.zeroValue109 }
theorem Tryd.Builder_Extra_105 : Builder.Extra Tryd.prog Tryd.lays105_ren := {
  sizeBuilder := by kernel_rfl
  liesBuilder := by kernel_rfl
  t5 := Tryd.underlying5
  a5 := Tryd.isAgg5
  z5 := Tryd.sizeOf5
  v5 := Tryd.zeroValue5
  infoByte := by kernel_rfl
  cellsByte := by kernel_rfl
  sizeByte := by kernel_rfl
  neB5 := by decide }
open Go.RowKit Go.Lib in
theorem Tryd.strings_Repeat (s : ByteArray) (c : Nat) (w : World) (hc : c ≤ 9223372036854775807) (hlen : s.size * c ≤ 140737488355328) :
    Calls Tryd.prog 77 #[.string s, .int .i64 c] w fun e w' => e = .returned (.string ⟨(Lib.repeatL s.data.toList c).toArray⟩) ∧ Below w.heap.size w w' := Any.strings_Repeat Tryd.lays105 Tryd.Builder_Extra_105 s c w hc hlen
end Go.Proofs
namespace Go.Proofs.YtnjmnicgknggfaaDoorW.PrintWords
open Go Go.RowKit Go.Proofs.YtnjmnicgknggfaaDoorW.PrintWords Go.Proofs.YtnjmnicgknggfaaDoorW.PrintLast Go.Proofs.YtnjmnicgknggfaaDoorW.PrintMore
attribute [local go_sem] max2_int min2_int max_two min_two max_three min_three max_four min_four
open Go.Proofs.YtnjmnicgknggfaaDoorW.PrintWords.Kd renaming R_alloc → zRa, R_drewN → zRn, R_drew → zRd, V_alloc → zVa, V_drewN → zVn, V_drew → zVd, V_below → zVb, C_alloc → zCa, C_drewN → zCn, C_drew → zCd, R_mono → zRm, V_mono → zVm, at_int → zAi, R_elder' → zRe, R_lower → zRl, R_new' → zRw, R_lt → zRt, R_below → zRb, R_base → zRz, R_reads' → zRr, R_slice → zRs, V_elder' → zVe, V_lower → zVl, V_slice → zVs, V_reads' → zVr
open Go.Proofs.YtnjmnicgknggfaaDoorW.PrintWords renaming pw_below_drewN → zBn, below_alloc → zBa, below_drew1 → zBd, below_size → zBs, below_step → zBt, blk_drewN → zKn, blk_drew → zKd, blk_alloc → zKa, blk_below → zKb, blk_cell → zKc, blk_frozen → zKf
open List renaming setIfInBounds_toArray → zSa, set_cons_zero → zSb, set_cons_succ → zSc, length_drop → zLd, length_take → zLt, map_toArray → zMa, map_cons → zMc, map_nil → zMn, length_cons → zLc, length_nil → zLn
open Go.Proofs.YtnjmnicgknggfaaDoorW.PrintWords.Aside0 renaming mk → zMk
open Option renaming bind_eq_some_iff → zBi, bind_some → zOb
open Option.some renaming inj → zOi
open Int renaming toNat_natCast → zTn
structure Up (W W1 : World) : Prop where
  b : Below W.heap.size W W1
instance upRefl (W : World) : Nonempty (Up W W) := ⟨⟨Below.refl _ _⟩⟩
instance upAlloc (W W1 : World) (o : Obj) [h : Nonempty (Up W W1)] : Nonempty (Up W (W1.alloc o)) := ⟨⟨zBa (h.elim fun u => u.b) o⟩⟩
instance upDrew (W W1 : World) [h : Nonempty (Up W W1)] : Nonempty (Up W W1.drew) := ⟨⟨below_drew (h.elim fun u => u.b)⟩⟩
instance upDrewN (W W1 : World) (n : Nat) [h : Nonempty (Up W W1)] : Nonempty (Up W (W1.drewN n)) := ⟨⟨zBn (h.elim fun u => u.b) n⟩⟩
structure Own (w : World) (g : Nat) : Prop where
  h : w.heap.size ≤ g
theorem ownGe {w : World} {g : Nat} (h : w.heap.size ≤ g) : Nonempty (Own w g) := ⟨⟨h⟩⟩
structure UpB (w W W1 : World) : Prop where
  f : Below w.heap.size w W → Below w.heap.size w W1
instance upbRefl (w W : World) : Nonempty (UpB w W W) := ⟨⟨id⟩⟩
instance upbAlloc (w W W1 : World) (o : Obj) [h : Nonempty (UpB w W W1)] : Nonempty (UpB w W (W1.alloc o)) := ⟨⟨fun x => zBa (h.elim fun u => u.f x) o⟩⟩
instance upbDrew (w W W1 : World) [h : Nonempty (UpB w W W1)] : Nonempty (UpB w W W1.drew) := ⟨⟨fun x => below_drew (h.elim fun u => u.f x)⟩⟩
instance upbDrewN (w W W1 : World) (n : Nat) [h : Nonempty (UpB w W W1)] : Nonempty (UpB w W (W1.drewN n)) := ⟨⟨fun x => zBn (h.elim fun u => u.f x) n⟩⟩
instance upbSet (w W W1 : World) (g j : Nat) (v : Value) [h : Nonempty (UpB w W W1)] [g0 : Nonempty (Own w g)] : Nonempty (UpB w W (W1.setCell ⟨g, j, none⟩ v)) := ⟨⟨fun x => below_set (h.elim fun u => u.f x) (g0.elim fun u => u.h)⟩⟩
theorem uT {w W W1 : World} (h : Below w.heap.size w W) [u : Nonempty (UpB w W W1)] : Below w.heap.size w W1 := (u.elim fun u => u.f) h
theorem uR {α : Type} {d : Kd α} {e base : Nat} {ok : Nat → Prop} {v : Value} {xs : List α} {W W1 : World} (h : d.R e W base ok v xs) [u : Nonempty (Up W W1)] : d.R e W1 base ok v xs := zRb h (u.elim fun u => u.b)
theorem uV {α : Type} {d : Kd α} {e base : Nat} {ok : Nat → Prop} {v : Value} {xs : List α} {W W1 : World} (h : Kd.V d e W base ok v xs) [u : Nonempty (Up W W1)] : Kd.V d e W1 base ok v xs := zVb h (u.elim fun u => u.b)
theorem uC {α : Type} {d : Kd α} {A : Option Addr} {n : Nat} {xs : List α} {W W1 : World} (h : d.C W A n xs) [u : Nonempty (Up W W1)] : d.C W1 A n xs := Kd.C_below h (u.elim fun u => u.b)
theorem bnd {α β : Type} {x : Option α} {f : α → Option β} {b : β} (h : x.bind f = some b) : ∃ a, x = some a ∧ f a = some b := Option.bind_eq_some_iff.mp h
end Go.Proofs.YtnjmnicgknggfaaDoorW.PrintWords
namespace Go.Proofs.YtnjmnicgknggfaaDoor.E
open Go Go.RowKit Go.Proofs.YtnjmnicgknggfaaDoorW.PrintWords Go.Proofs.YtnjmnicgknggfaaDoorW.PrintLast Go.Proofs.YtnjmnicgknggfaaDoorW.PrintMore
attribute [local go_sem] max2_int min2_int max_two min_two max_three min_three max_four min_four
open Go.Proofs.YtnjmnicgknggfaaDoorW.PrintWords.Kd renaming R_alloc → zRa, R_drewN → zRn, R_drew → zRd, V_alloc → zVa, V_drewN → zVn, V_drew → zVd, V_below → zVb, C_alloc → zCa, C_drewN → zCn, C_drew → zCd, R_mono → zRm, V_mono → zVm, at_int → zAi, R_elder' → zRe, R_lower → zRl, R_new' → zRw, R_lt → zRt, R_below → zRb, R_base → zRz, R_reads' → zRr, R_slice → zRs, V_elder' → zVe, V_lower → zVl, V_slice → zVs, V_reads' → zVr
open Go.Proofs.YtnjmnicgknggfaaDoorW.PrintWords renaming pw_below_drewN → zBn, below_alloc → zBa, below_drew1 → zBd, below_size → zBs, below_step → zBt, blk_drewN → zKn, blk_drew → zKd, blk_alloc → zKa, blk_below → zKb, blk_cell → zKc, blk_frozen → zKf
open List renaming setIfInBounds_toArray → zSa, set_cons_zero → zSb, set_cons_succ → zSc, length_drop → zLd, length_take → zLt, map_toArray → zMa, map_cons → zMc, map_nil → zMn, length_cons → zLc, length_nil → zLn
open Go.Proofs.YtnjmnicgknggfaaDoorW.PrintWords.Aside0 renaming mk → zMk
open Option renaming bind_eq_some_iff → zBi, bind_some → zOb
open Option.some renaming inj → zOi
open Int renaming toNat_natCast → zTn



def errW : Option Int → Value
  | none => .nilIface
  | some c => .iface 0 (.int .i64 c)
theorem errW_none : errW none = .nilIface := rfl
theorem errW_some (c : Int) : errW (some c) = .iface 0 (.int .i64 c) := rfl

theorem info5 : (Tryd.prog.info? 5).map (fun i => (i.zero, i.size, i.bytes)) = some (some (.int .u8 0), 1, 1) := by kernel_rfl
theorem info9 : (Tryd.prog.info? 9).map (fun i => (i.zero, i.size, i.bytes)) = some (some (.string ⟨#[]⟩), 1, 16) := by kernel_rfl
theorem info58 : (Tryd.prog.info? 58).map (fun i => (i.zero, i.size, i.bytes)) = some (some (.int .u32 0), 1, 4) := by kernel_rfl
-- the values' own types


def cutLen (l : List Int) : Nat → Nat
  | 0 => 0
  | n + 1 => if l.getD n 0 = 0 then cutLen l n else n + 1
theorem cutLen_le (l : List Int) : ∀ n, cutLen l n ≤ n
  | 0 => Nat.le_refl _
  | n + 1 => by
    unfold cutLen
    split
    · exact Nat.le_succ_of_le (cutLen_le l n)
    · exact Nat.le_refl _
def n_cut.f (l0 : List Int) : Option (List Int) := some (l0.take (cutLen l0 l0.length))
set_option maxHeartbeats 1000000 in
theorem n_cut.exact (A0 : Option Addr) (c0 : Nat) (l0 : List Int) (w : World) (hr0 : Kd.C (Kd.int .u32) w A0 l0.length l0) (hc0 : l0.length ≤ c0) :
    Calls Tryd.prog 56 #[.slice A0 l0.length c0] w fun e w' => e = .returned (.slice A0 (cutLen l0 l0.length) c0) ∧ w = w' := by
  have HR0 := zMk hr0
  have HC0 := zMk hc0
  have hmax : l0.length ≤ 9223372036854775807 := hr0.2.1
  have HL : ∃ L, l0.length = L := ⟨_, rfl⟩
  obtain ⟨L, hL⟩ := HL
  have HLL := zMk hL
  have hc1 : L ≤ c0 := hL ▸ hc0
  have hmax1 : L ≤ 9223372036854775807 := hL ▸ hmax
  rw [hL]
  clear hr0 hc0 hL hmax
  go_enter Tryd.func56, Tryd.ntmps56
  go_wp2
  go_loop [0] (fun v => ∃ m : Nat, m ≤ L ∧ Aside0 (cutLen l0 m = cutLen l0 L) ∧ v = .slice A0 m c0) (fun v => match v with | .slice _ m _ => m | _ => 0)
  case atStart => exact ⟨L, Nat.le_refl _, ⟨rfl⟩, rfl⟩
  obtain ⟨m, hm, hcut, rfl⟩ := hrel
  rcases Nat.eq_zero_or_pos m with h0 | h0
  · subst h0
    go_wp2
    go_ret
    exact ⟨by rw [← hcut.out]; rfl, rfl⟩
  · have hi : ∃ j : Int, (m : Int) - 1 = j := ⟨_, rfl⟩
    obtain ⟨j, hj⟩ := hi
    have hj0 : 0 ≤ j := by omega
    have hjm : j < (m : Int) := by omega
    have hjL : j < ((l0.length : Nat) : Int) := by rw [HLL.out]; omega
    obtain ⟨ad, e, hx⟩ := zAi HR0.out j hj0 hjL
    subst e
    have hjn : j.toNat = m - 1 := by omega
    have hpos : decide (0 < m) = true := decide_eq_true h0
    have hstep : cutLen l0 m = if rd l0 j = 0 then cutLen l0 (m - 1) else m := by
      obtain ⟨n, rfl⟩ : ∃ n, m = n + 1 := ⟨m - 1, by omega⟩
      have hjn2 : j.toNat = n := by omega
      unfold rd
      rw [hjn2]
      simp only [cutLen, Nat.add_sub_cancel]
    have hstep := zMk hstep
    obtain ⟨i0, hi0, _, hsz, _⟩ := info_parts info58
    have hcutr := cut_to (P := Tryd.prog) 22 58 .i64 Tryd.underlying22 hi0 (some ad) m c0 j hj0 (by omega) (by omega)
    rw [hjn] at hcutr
    clear hi0 hsz hjn hjL
    have hjw : IntKind.i64.wrap ((m : Int) - 1) = j := by rw [i64_w]; unfold wrap64; omega
    have p1 := eq_true hj0
    have p2 := eq_true hjm
    have p3 : decide (0 ≤ j) = true := decide_eq_true hj0
    have p4 : decide (j < (m : Int)) = true := decide_eq_true hjm
    have p5 : decide (j ≤ (m : Int)) = true := decide_eq_true (Int.le_of_lt hjm)
    by_cases hz : rd l0 j = 0
    · have z1 : ((rd l0 j) == 0) = true := beq_iff_eq.mpr hz
      have hm2 : Aside0 (cutLen l0 (m - 1) = cutLen l0 L) := ⟨by rw [← hcut.out, hstep.out, if_pos hz]⟩
      clear hz hstep hcut
      go_wp2
      go_round
      case rel => exact ⟨m - 1, by omega, hm2, rfl⟩
      case measure => simp; omega
    · have z1 : ((rd l0 j) == 0) = false := beq_eq_false_iff_ne.mpr hz
      have hm2 : Aside0 (m = cutLen l0 L) := ⟨by rw [← hcut.out, hstep.out, if_neg hz]⟩
      clear hz hstep hcut
      go_wp2
      go_ret
      exact ⟨congrArg (fun z => Ending.returned (Value.slice (some ad) z c0)) hm2.out, rfl⟩
theorem n_cut.calls (P0_ : Nat → Prop) (A0 : Option Addr) (c0 : Nat) (l0 : List Int) (r : List Int) (w : World) (hs0 : Kd.V (Kd.int .u32) 58 w w.heap.size (fun k_ => P0_ k_) (.slice A0 l0.length c0) l0) (h : n_cut.f l0 = some r) :
    Calls Tryd.prog 56 #[.slice A0 l0.length c0] w fun e w' => ∃ v0_ : Value, e = .returned (v0_) ∧ Kd.V (Kd.int .u32) 58 w' w.heap.size (fun k_ => (P0_ k_ ∨ w.heap.size ≤ k_)) v0_ r ∧ Below w.heap.size w w' := by
  have hv := zVr hs0
  refine (n_cut.exact A0 c0 l0 w hv.2.2 hv.2.1).mono ?_
  rintro e w' ⟨rfl, rfl⟩
  unfold n_cut.f at h
  obtain rfl := zOi h
  have hle := cutLen_le l0 l0.length
  have hF := Kd.F_take (m := cutLen l0 l0.length) (Kd.V_F hs0) hle
  have hlen : (l0.take (cutLen l0 l0.length)).length = cutLen l0 l0.length := by rw [zLt]; omega
  refine ⟨_, rfl, ?_, Below.refl _ _⟩
  have h2 := Kd.V_mk (e := 58) (base := w.heap.size) (c := c0) (by rw [hlen]; omega) hF
  rw [hlen] at h2
  rw [hlen] at hF
  exact zVm h2 (fun k_ hk => .inl hk)


def n_Of.f (a0 : Int) : Option (List Int) := (n_cut.f (([(a0) % 4294967296, (a0 / 4294967296) % 4294967296] : List Int))).bind fun t104 => (some t104)
set_option maxHeartbeats 8000000 in
set_option maxRecDepth 100000 in
theorem n_Of.calls (a0 : Int) (r : List Int) (w : World) (h : n_Of.f a0 = some r) :
    Calls Tryd.prog 34 #[.int .u64 a0] w fun e w' => ∃ v0_ : Value, e = .returned (v0_) ∧ Kd.V (Kd.int .u32) 58 w' w.heap.size (fun k_ => (w.heap.size ≤ k_)) v0_ r ∧ Below w.heap.size w w' := by
  have HB := zMk (Below.refl w.heap.size w)
  have H : ((n_cut.f (([(a0) % 4294967296, (a0 / 4294967296) % 4294967296] : List Int))).bind fun t104 => (some t104)) = some r := h
  clear h
  obtain ⟨y101, hy101⟩ : ∃ y_ : List Int, y_ = (([(a0) % 4294967296, (a0 / 4294967296) % 4294967296] : List Int)) := ⟨_, rfl⟩
  replace H : ((n_cut.f y101).bind fun t104 => (some t104)) = some r := by first | (rw [hy101]; with_reducible exact H) | (have H2_ := (zOb _ _).symm.trans H; rw [hy101]; with_reducible exact H2_) | (have H2_ := (zOb _ _).symm.trans H; with_reducible exact H2_) | with_reducible exact H | (rw [hy101]; exact H) | exact H
  have Ny101 := zMk hy101
  clear hy101
  replace H := bnd H
  obtain ⟨t104, A20, H⟩ := H
  have A2 := zMk A20
  clear A20
  obtain rfl := zOi H
  go_enter Tryd.func34, Tryd.ntmps34
  go_wp2_with (first |  ((with_reducible refine gate_dst (N := 8) rfl ?_); refine Kd.R_lit (Kd.int .u32) _ 58 ?hg (N := 8) ?hd (xs := ([(a0) % 4294967296, (a0 / 4294967296) % 4294967296] : List Int)) (inner := [.int .u32 ((a0) % 4294967296), .int .u32 ((a0 / 4294967296) % 4294967296)]) (ok := fun _ => True) (okp := fun _ => True) ?hr ?hp (fun _ hk => hk) trivial (Below.refl _ _) (Nat.le_refl _) (by simp) ?_; (case hd => rfl); (case hg => rfl); (case hr => first |  (go_simp; done)|  (go_simp; rfl)|  (go_simp; rw [show ∀ x : Int, IntKind.u32.wrap (IntKind.u8.wrap x) = x % 256 from fun x => (by show (x % 256) % 4294967296 = x % 256; omega)])); (case hp => exact (Reps.one (show Kd.M (Kd.int .u32) _ _ _ ((a0) % 4294967296) [.int .u32 ((a0) % 4294967296)] from rfl) (Reps.one (show Kd.M (Kd.int .u32) _ _ _ ((a0 / 4294967296) % 4294967296) [.int .u32 ((a0 / 4294967296) % 4294967296)] from rfl) (Reps.none _ _)))); intro v102 w3 ho4 hb hg_ hnew_; clear hg_ hnew_; (first |  rw [← Ny101.out] at ho4|  (simp only [Int.reduceToNat] at ho4; rw [← Ny101.out] at ho4)); have HO103 := zMk (zRl (Kd.R_newM (M := fun k_ => (w.heap.size ≤ k_)) ho4 (zBs (by exact uT HB.out)) (fun k_ h_ => h_)) (zBs (by exact uT HB.out))); replace HB := zMk (zBt (by exact uT HB.out) hb); clear hb ho4; obtain ⟨Ao5, co5, eo5⟩ := zRs HO103.out; subst eo5)|  ((with_reducible refine gate_callee (f := 56) rfl ?_); refine goesL_ (some 9) rfl rfl Tryd.func56 (by kernel_rfl) rfl #[.slice Ao5 y101.length co5] rfl (by (try simp only [zMa, zMc, zMn]); first |  done|  rfl|  (simp only [zLd, zLt]; rfl)) ?_; (with_reducible refine (n_cut.calls (fun k_ => some k_ = (.slice Ao5 y101.length co5 : Value).ownBlock) _ _ y101 t104 _ ?side1 A2.out).mono ?_); (case side1 => exact Kd.R_V (Kd.R_tight rfl (HO103.out))); rintro e w6 ⟨v105, rfl, ho0, hb⟩; refine ⟨_, rfl, ?_⟩; have HO106 := zMk (zVl (zVm (ok' := fun k_ => (w.heap.size ≤ k_)) ho0 (fun k_ hk_ => Or.elim hk_ (fun hs_ => ((HO103.out).1 k_ hs_.symm).1) (fun hn_ => (Nat.le_trans (zBs (by exact uT HB.out)) hn_)))) (zBs (by exact uT HB.out))); replace HO103 := zMk (zRb (by exact uR HO103.out) hb); replace HB := zMk (zBt (by exact uT HB.out) hb); (try clear hb); (try clear hb2); (try clear hk); (try clear hi); (try clear ho0)))
  go_ret
  exact ⟨_, by first | rfl | (simp [errW_none, errW_some] <;> rfl) | (simp [*, errW_none, errW_some] <;> rfl), by exact uV HO106.out, by exact uT HB.out⟩


def cmp_isNaN_int.f (a0 : Int) : Option (Bool) := some (a0 != a0)
set_option maxHeartbeats 8000000 in
set_option maxRecDepth 100000 in
theorem cmp_isNaN_int.calls (a0 : Int) (r : Bool) (w : World) (h : cmp_isNaN_int.f a0 = some r) :
    Calls Tryd.prog 81 #[.int .i64 a0] w fun e w' => e = .returned (.bool r) ∧ Drawn0 w w' := by
  have H : (some (a0 != a0)) = some r := h
  clear h
  obtain rfl := zOi H
  go_enter Tryd.func81, Tryd.ntmps81
  go_wp2
  go_ret
  exact ⟨by first | rfl | (simp; done) | (simp [*]; done), by repeat (first | exact Drawn0.refl _ | apply Drawn0.step)⟩


def cmp_Compare_int.f (a0 : Int) (a1 : Int) : Option (Int) := (cmp_isNaN_int.f a0).bind fun t124 => ((cmp_isNaN_int.f a1).bind fun t125 => (if t124 = true then (if t125 = true then (some 0) else (some (-1))) else (if t125 = true then (some 1) else (if a0 < a1 then (some (-1)) else (if a0 > a1 then (some 1) else (some 0))))))
set_option maxHeartbeats 8000000 in
set_option maxRecDepth 100000 in
theorem cmp_Compare_int.calls (a0 : Int) (a1 : Int) (r : Int) (w : World) (h : cmp_Compare_int.f a0 a1 = some r) :
    Calls Tryd.prog 70 #[.int .i64 a0, .int .i64 a1] w fun e w' => e = .returned (.int .i64 r) ∧ Drawn0 w w' := by
  have H : ((cmp_isNaN_int.f a0).bind fun t124 => ((cmp_isNaN_int.f a1).bind fun t125 => (if t124 = true then (if t125 = true then (some 0) else (some (-1))) else (if t125 = true then (some 1) else (if a0 < a1 then (some (-1)) else (if a0 > a1 then (some 1) else (some 0))))))) = some r := h
  clear h
  replace H := bnd H
  obtain ⟨t124, A30, H⟩ := H
  have A3 := zMk A30
  clear A30
  replace H := bnd H
  obtain ⟨t125, A40, H⟩ := H
  have A4 := zMk A40
  clear A40
  by_cases c5 : t124 = true
  · subst c5
    have H1 : (if t125 = true then (some 0) else (some (-1))) = some r := by rw [if_pos rfl] at H; exact H
    clear H
    have H := H1
    clear H1
    by_cases c6 : t125 = true
    · subst c6
      have H1 : (some 0) = some r := by rw [if_pos rfl] at H; exact H
      clear H
      have H := H1
      clear H1
      obtain rfl := zOi H
      go_enter Tryd.func70, Tryd.ntmps70
      go_wp2_with (first | ((with_reducible refine gate_callee (f := 81) rfl ?_); refine goesL_ (some 8) rfl rfl Tryd.func81 (by kernel_rfl) rfl #[.int .i64 a0] rfl (by (try simp only [zMa, zMc, zMn]); first | done | rfl | (simp only [zLd, zLt]; rfl)) ?_; (with_reducible refine (cmp_isNaN_int.calls a0 true _ A3.out).mono ?_); rintro e w' ⟨rfl, ⟨nd, rfl⟩⟩; refine ⟨_, rfl, ?_⟩) | ((with_reducible refine gate_callee (f := 81) rfl ?_); refine goesL_ (some 10) rfl rfl Tryd.func81 (by kernel_rfl) rfl #[.int .i64 a1] rfl (by (try simp only [zMa, zMc, zMn]); first | done | rfl | (simp only [zLd, zLt]; rfl)) ?_; (with_reducible refine (cmp_isNaN_int.calls a1 true _ A4.out).mono ?_); rintro e w' ⟨rfl, ⟨nd, rfl⟩⟩; refine ⟨_, rfl, ?_⟩))
      go_ret
      exact ⟨by first | rfl | (simp; done) | (simp [*]; done), by repeat (first | exact Drawn0.refl _ | apply Drawn0.step)⟩
    · replace c6 := Bool.eq_false_iff.mpr c6
      subst c6
      have H1 : (some (-1)) = some r := by rw [if_neg (show ¬ (false = true) by decide)] at H; exact H
      clear H
      have H := H1
      clear H1
      obtain rfl := zOi H
      go_enter Tryd.func70, Tryd.ntmps70
      go_wp2_with (first | ((with_reducible refine gate_callee (f := 81) rfl ?_); refine goesL_ (some 8) rfl rfl Tryd.func81 (by kernel_rfl) rfl #[.int .i64 a0] rfl (by (try simp only [zMa, zMc, zMn]); first | done | rfl | (simp only [zLd, zLt]; rfl)) ?_; (with_reducible refine (cmp_isNaN_int.calls a0 true _ A3.out).mono ?_); rintro e w' ⟨rfl, ⟨nd, rfl⟩⟩; refine ⟨_, rfl, ?_⟩) | ((with_reducible refine gate_callee (f := 81) rfl ?_); refine goesL_ (some 10) rfl rfl Tryd.func81 (by kernel_rfl) rfl #[.int .i64 a1] rfl (by (try simp only [zMa, zMc, zMn]); first | done | rfl | (simp only [zLd, zLt]; rfl)) ?_; (with_reducible refine (cmp_isNaN_int.calls a1 false _ A4.out).mono ?_); rintro e w' ⟨rfl, ⟨nd, rfl⟩⟩; refine ⟨_, rfl, ?_⟩))
      go_ret
      exact ⟨by first | rfl | (simp; done) | (simp [*]; done), by repeat (first | exact Drawn0.refl _ | apply Drawn0.step)⟩
  · replace c5 := Bool.eq_false_iff.mpr c5
    subst c5
    have H1 : (if t125 = true then (some 1) else (if a0 < a1 then (some (-1)) else (if a0 > a1 then (some 1) else (some 0)))) = some r := by rw [if_neg (show ¬ (false = true) by decide)] at H; exact H
    clear H
    have H := H1
    clear H1
    by_cases c7 : t125 = true
    · subst c7
      have H1 : (some 1) = some r := by rw [if_pos rfl] at H; exact H
      clear H
      have H := H1
      clear H1
      obtain rfl := zOi H
      go_enter Tryd.func70, Tryd.ntmps70
      go_wp2_with (first | ((with_reducible refine gate_callee (f := 81) rfl ?_); refine goesL_ (some 8) rfl rfl Tryd.func81 (by kernel_rfl) rfl #[.int .i64 a0] rfl (by (try simp only [zMa, zMc, zMn]); first | done | rfl | (simp only [zLd, zLt]; rfl)) ?_; (with_reducible refine (cmp_isNaN_int.calls a0 false _ A3.out).mono ?_); rintro e w' ⟨rfl, ⟨nd, rfl⟩⟩; refine ⟨_, rfl, ?_⟩) | ((with_reducible refine gate_callee (f := 81) rfl ?_); refine goesL_ (some 10) rfl rfl Tryd.func81 (by kernel_rfl) rfl #[.int .i64 a1] rfl (by (try simp only [zMa, zMc, zMn]); first | done | rfl | (simp only [zLd, zLt]; rfl)) ?_; (with_reducible refine (cmp_isNaN_int.calls a1 true _ A4.out).mono ?_); rintro e w' ⟨rfl, ⟨nd, rfl⟩⟩; refine ⟨_, rfl, ?_⟩))
      go_ret
      exact ⟨by first | rfl | (simp; done) | (simp [*]; done), by repeat (first | exact Drawn0.refl _ | apply Drawn0.step)⟩
    · replace c7 := Bool.eq_false_iff.mpr c7
      subst c7
      have H1 : (if a0 < a1 then (some (-1)) else (if a0 > a1 then (some 1) else (some 0))) = some r := by rw [if_neg (show ¬ (false = true) by decide)] at H; exact H
      clear H
      have H := H1
      clear H1
      by_cases c8 : a0 < a1
      · rw [if_pos c8] at H
        have c8b0 : decide (a0 < a1) = true := decide_eq_true c8
        clear c8
        obtain rfl := zOi H
        go_enter Tryd.func70, Tryd.ntmps70
        go_wp2_with (first | ((with_reducible refine gate_callee (f := 81) rfl ?_); refine goesL_ (some 8) rfl rfl Tryd.func81 (by kernel_rfl) rfl #[.int .i64 a0] rfl (by (try simp only [zMa, zMc, zMn]); first | done | rfl | (simp only [zLd, zLt]; rfl)) ?_; (with_reducible refine (cmp_isNaN_int.calls a0 false _ A3.out).mono ?_); rintro e w' ⟨rfl, ⟨nd, rfl⟩⟩; refine ⟨_, rfl, ?_⟩) | ((with_reducible refine gate_callee (f := 81) rfl ?_); refine goesL_ (some 10) rfl rfl Tryd.func81 (by kernel_rfl) rfl #[.int .i64 a1] rfl (by (try simp only [zMa, zMc, zMn]); first | done | rfl | (simp only [zLd, zLt]; rfl)) ?_; (with_reducible refine (cmp_isNaN_int.calls a1 false _ A4.out).mono ?_); rintro e w' ⟨rfl, ⟨nd, rfl⟩⟩; refine ⟨_, rfl, ?_⟩))
        go_ret
        exact ⟨by first | rfl | (simp; done) | (simp [*]; done), by repeat (first | exact Drawn0.refl _ | apply Drawn0.step)⟩
      · rw [if_neg c8] at H
        have c8b0 : decide (a0 < a1) = false := decide_eq_false c8
        clear c8
        by_cases c9 : a0 > a1
        · rw [if_pos c9] at H
          have c9b0 : decide (a1 < a0) = true := decide_eq_true c9
          clear c9
          obtain rfl := zOi H
          go_enter Tryd.func70, Tryd.ntmps70
          go_wp2_with (first | ((with_reducible refine gate_callee (f := 81) rfl ?_); refine goesL_ (some 8) rfl rfl Tryd.func81 (by kernel_rfl) rfl #[.int .i64 a0] rfl (by (try simp only [zMa, zMc, zMn]); first | done | rfl | (simp only [zLd, zLt]; rfl)) ?_; (with_reducible refine (cmp_isNaN_int.calls a0 false _ A3.out).mono ?_); rintro e w' ⟨rfl, ⟨nd, rfl⟩⟩; refine ⟨_, rfl, ?_⟩) | ((with_reducible refine gate_callee (f := 81) rfl ?_); refine goesL_ (some 10) rfl rfl Tryd.func81 (by kernel_rfl) rfl #[.int .i64 a1] rfl (by (try simp only [zMa, zMc, zMn]); first | done | rfl | (simp only [zLd, zLt]; rfl)) ?_; (with_reducible refine (cmp_isNaN_int.calls a1 false _ A4.out).mono ?_); rintro e w' ⟨rfl, ⟨nd, rfl⟩⟩; refine ⟨_, rfl, ?_⟩))
          go_ret
          exact ⟨by first | rfl | (simp; done) | (simp [*]; done), by repeat (first | exact Drawn0.refl _ | apply Drawn0.step)⟩
        · rw [if_neg c9] at H
          have c9b0 : decide (a1 < a0) = false := decide_eq_false c9
          clear c9
          obtain rfl := zOi H
          go_enter Tryd.func70, Tryd.ntmps70
          go_wp2_with (first | ((with_reducible refine gate_callee (f := 81) rfl ?_); refine goesL_ (some 8) rfl rfl Tryd.func81 (by kernel_rfl) rfl #[.int .i64 a0] rfl (by (try simp only [zMa, zMc, zMn]); first | done | rfl | (simp only [zLd, zLt]; rfl)) ?_; (with_reducible refine (cmp_isNaN_int.calls a0 false _ A3.out).mono ?_); rintro e w' ⟨rfl, ⟨nd, rfl⟩⟩; refine ⟨_, rfl, ?_⟩) | ((with_reducible refine gate_callee (f := 81) rfl ?_); refine goesL_ (some 10) rfl rfl Tryd.func81 (by kernel_rfl) rfl #[.int .i64 a1] rfl (by (try simp only [zMa, zMc, zMn]); first | done | rfl | (simp only [zLd, zLt]; rfl)) ?_; (with_reducible refine (cmp_isNaN_int.calls a1 false _ A4.out).mono ?_); rintro e w' ⟨rfl, ⟨nd, rfl⟩⟩; refine ⟨_, rfl, ?_⟩))
          go_ret
          exact ⟨by first | rfl | (simp; done) | (simp [*]; done), by repeat (first | exact Drawn0.refl _ | apply Drawn0.step)⟩



section
variable {P : Program} {ops : Array Oper} {md : Region.Mode} {w : World}
def noDefer : Op → Bool
  | .defer _ => false
  | _ => true
theorem noDefer_ne {o : Op} (h : noDefer o = true) (c : Call) : o ≠ .defer c := by
  intro e; subst e; cases h
end
section
variable {P : Program} {ops : Array Oper} {md : Region.Mode} {Q : Exit → Act → World → Prop}
theorem oper_round {o : Oper} (hd : noDefer o.op = true) (r n : Nat) {a : Act} {w : World} {K K' : Act → World → Prop} (hK : ∀ a w, K a w → K' a w) (h : o.wp P a w K Q) : o.wpIn (Fence.wide.inRound r) n P a w K' Q := by
  refine ⟨fun _ _ => trivial, ?_⟩
  show o.uponIn (Fence.wide.inRound r) n P a K' Q ((o.semAt (some r) a.eval).run P w)
  rw [Oper.semAt_some r a.eval o (fun c => noDefer_ne hd c)]
  unfold Oper.wp at h
  generalize (execOp a.eval o).run P w = x at h ⊢
  cases x with
  | ok y w' =>
    cases y with
    | value v => exact hK _ _ h
    | skip => exact hK _ _ h
    | defer d => exact hK _ _ h
    | enter f args => exact ⟨fun h => by simp [Fence.wide] at h, CallsIn.inRound r (callsIn_wide.2 (h.mono fun e w'' he => by cases e <;> first | exact hK _ _ he | exact he))⟩
    | row row args => exact ⟨fun h => by simp [Fence.wide] at h, fun c cs _ => let ⟨v, w', q, s⟩ := h c cs; ⟨v, w', hK _ _ q, stepsIn_wide.2 s⟩⟩
    | _ => exact h.elim
  | halt x w' => cases x <;> exact h
theorem op_round (hQ : ¬ LetsOut Q) {i : Nat} (hd : ∀ o : Oper, ops[i]? = some o → noDefer o.op = true) (r n : Nat) {a : Act} {w : World} {K K' : Act → World → Prop} (hK : ∀ a w, K a w → K' a w) (h : wpOp P ops Q i K a w) : wpOpIn (Fence.wide.inRound r) n P ops Q i K' a w := by
  unfold wpOp at h
  unfold wpOpIn
  cases ho : ops[i]? with
  | none => rw [ho] at h; exact hK _ _ h
  | some o =>
    rw [ho] at h
    simp only at h ⊢
    split
    · rename_i hw
      rw [if_pos hw] at h
      rcases h with h | h
      · exact oper_round (hd o ho) r n hK h
      · exact absurd h.2 hQ
    · rename_i hw
      rw [if_neg hw] at h
      exact ⟨fun _ _ => trivial, hK _ _ h⟩
set_option linter.unusedVariables false in
theorem any_round (hQ : ¬ LetsOut Q) (hd : ∀ (i : Nat) (o : Oper), ops[i]? = some o → noDefer o.op = true) (r n : Nat) : ∀ (fuel : Nat) (listed : Array Bool) (a : Act) (w : World), wpAny P md ops Q fuel listed a w → wpAnyIn (Fence.wide.inRound r) n P md ops Q fuel listed a w
  | 0, _, _, _, h => h
  | fuel + 1, listed, a, w, h => ⟨h.1, fun i hi => op_round hQ (hd i) r n (fun a' w' => any_round hQ hd r n fuel _ a' w') (h.2 i hi)⟩
theorem region_round {id r n : Nat} {l : List Oper} {a : Act} {w : World} {Q' : Exit → Act → World → Prop} (R : Act → World → Prop) (hm : P.follows .mixedOrders = true) (hd : l.all (fun o => noDefer o.op) = true)
    (h : wpAny P .any l.toArray (fun e a w => e = .normal ∧ R a w) l.toArray.size (Array.replicate l.toArray.size false) a w.drew) (hR : ∀ a w, R a w → Q' .normal a w) : (Code.region id l.toArray true).wpIn (Fence.wide.inRound r) n P Q' a w := by
  have hd' : ∀ (i : Nat) (o : Oper), l.toArray[i]? = some o → noDefer o.op = true := fun i o ho => List.all_eq_true.1 hd o (by
    rw [List.getElem?_toArray] at ho
    exact List.mem_of_getElem? ho)
  refine wpIn_mono (Q := fun e a w => e = .normal ∧ R a w) (wpIn_region_any hm (any_round (by rintro ⟨_, _, h, _⟩; cases h) hd' r n _ _ _ _ h)) ?_
  rintro e a w ⟨rfl, h⟩
  exact hR a w h
end
def KeepOk (ok : Nat → Prop) (W W' : World) : Prop := ∀ k, ok k → W'.heap[k]? = W.heap[k]?
theorem KeepOk.refl (ok : Nat → Prop) (W : World) : KeepOk ok W W := fun _ _ => rfl
theorem KeepOk.trans {ok : Nat → Prop} {A B C : World} (h : KeepOk ok A B) (k : KeepOk ok B C) : KeepOk ok A C := fun i hi => (k i hi).trans (h i hi)
theorem KeepOk.turn {ok : Nat → Prop} {w : World} (hok : ∀ k, ok k → k < w.heap.size) (W : World) (l : Nat) (o o' : Obj) (hl : w.heap.size ≤ l) (_ : W.heap[l]? = some o) (_ : o.isCells = false) (_ : o.isWalk = false) : KeepOk ok W (W.putObj l o') := by
  intro k hk
  have := hok k hk
  exact World.putObj_heap_other (by omega)
theorem KeepOk.cell {ok : Nat → Prop} {W W' : World} (h : KeepOk ok W W') {b j : Nat} (hb : ok b) : W'.cell? ⟨b, j, none⟩ = W.cell? ⟨b, j, none⟩ := by
  simp only [World.cell?, h b hb]
def bwd (L : Nat) : (k : Nat) → k ≤ L → List { i : Nat // i < L }
  | 0, _ => []
  | k + 1, h => bwd L k (Nat.le_of_succ_le h) ++ [⟨L - 1 - k, by omega⟩]
theorem bwd_length (L : Nat) : ∀ k h, (bwd L k h).length = k
  | 0, _ => rfl
  | k + 1, h => by simp [bwd, bwd_length L k]
theorem bwd_mem (L : Nat) : ∀ k h (i : Nat) (hi : i < L), L ≤ i + k → (⟨i, hi⟩ : { i : Nat // i < L }) ∈ bwd L k h
  | 0, _, i, hi, hk => by omega
  | k + 1, h, i, hi, hk => by
    unfold bwd
    rcases Nat.lt_or_ge (i + k) L with h2 | h2
    · have : i = L - 1 - k := by omega
      subst this
      simp
    · exact List.mem_append_left _ (bwd_mem L k _ i hi h2)
theorem bwd_last (L : Nat) {k : Nat} {h : k ≤ L} {ini : List { i : Nat // i < L }} {last : { i : Nat // i < L }} (e : bwd L k h = ini ++ [last]) : ∃ k' h', k = k' + 1 ∧ ini = bwd L k' h' ∧ last.1 = L - 1 - k' := by
  cases k with
  | zero => simp [bwd] at e
  | succ k' =>
    unfold bwd at e
    obtain ⟨e1, e2⟩ := List.append_inj' e rfl
    refine ⟨k', Nat.le_of_succ_le h, rfl, e1.symm, ?_⟩
    have : (⟨L - 1 - k', by omega⟩ : { i : Nat // i < L }) = last := by simpa using e2
    rw [← this]
attribute [local go_sem] Oper.semAt_some
set_option maxRecDepth 100000 in
set_option maxHeartbeats 2000000 in
theorem slices_Backward_uint32_uint32.closure (F : Fence) (n : Nat) (h8 : F.fn 82) (hro : F.round = none) (hn : 1 ≤ n) (l Bs cap : Nat) (A : Option Addr) (xs : List Int) (hcap : xs.length ≤ cap) (ok : Nat → Prop) (hBok : ok Bs) (J Jx : List { i : Nat // i < xs.length } → World → Prop)
    (hY : ∀ pre x W, J pre W → pre.length < xs.length → YieldAt F (n - 1) Tryd.prog l #[.int .i64 (x.1 : Int), .int .u32 (rd xs (x.1 : Int))] W fun e W' =>
      (e = .returned (.bool true) ∧ J (pre ++ [x]) W' ∧ KeepOk ok W W') ∨ (e = .returned (.bool false) ∧ Jx (pre ++ [x]) W'))
    (W : World) (hBs : W.cell? ⟨Bs, 0, none⟩ = some (.slice A xs.length cap)) (hF : Kd.F (Kd.int .u32) W ok A xs.length xs) (h0 : J [] W) :
    CallsIn F n Tryd.prog 82 #[.func (.yield l) #[] #[], .pointer (some ⟨Bs, 0, none⟩)] W fun e W' => (∃ v, e = .returned v) ∧
      ((∃ ys, ys = bwd xs.length xs.length (Nat.le_refl _) ∧ J ys W') ∨ (∃ pre, (∃ k h, pre = bwd xs.length k h) ∧ Jx pre W')) := by
  have HF := zMk hF
  have hmax : xs.length ≤ 9223372036854775807 := Kd.F_max hF
  have HJ0 := zMk h0
  clear hF h0
  refine callsIn_of_wp Tryd.func82 rfl h8 ?_ hro
  simp only [Tryd.ntmps82, List.size_toArray, zLc, zLn, Nat.reduceAdd, Nat.reduceSub, Array.replicate_succ, Array.replicate_zero, List.push_toArray, List.append_toArray, List.nil_append, List.cons_append]
  have hw0 : IntKind.i64.wrap ((xs.length : Int) - 1) = (xs.length : Int) - 1 := by rw [i64_w]; unfold wrap64; omega
  gi_wp2
  gi_loopw [3] (fun i wr => ∃ (k : Nat) (h : k ≤ xs.length), i = .int .i64 ((xs.length : Int) - 1 - k) ∧ Aside0 (J (bwd xs.length k h) wr) ∧ Aside0 (KeepOk ok W wr))
    (fun i _ => (intOf i + 1).toNat)
  case atStart => exact ⟨0, Nat.zero_le _, by simp, by simpa [bwd] using HJ0, ⟨KeepOk.refl _ _⟩⟩
  case round =>
    obtain ⟨k, hk, rfl, hJs, hkp⟩ := hrel
    have hb2 : wr.cell? ⟨Bs, 0, none⟩ = some (.slice A xs.length cap) := (hkp.out.cell hBok).trans hBs
    by_cases hlt : k < xs.length
    · obtain ⟨j, hj⟩ : ∃ j : Nat, xs.length - 1 - k = j := ⟨_, rfl⟩
      have hjL : j < xs.length := by omega
      have hjz : (xs.length : Int) - 1 - k = (j : Int) := by omega
      rw [hjz]
      obtain ⟨fn, tmps, assign, body, hy, hR⟩ := hY _ ⟨j, hjL⟩ wr hJs.out (by rw [bwd_length]; exact hlt)
      have hC := Kd.F_now (Kd.F_step HF.out (fun k hk _ => hkp.out k hk))
      obtain ⟨ad, e, hx⟩ := zAi hC (j : Int) (by omega) (by omega)
      subst e
      have hjL' : (j : Int) < (xs.length : Int) := by omega
      have HR := zMk hR
      have Hj := zMk hj
      have Hjz := zMk hjz
      have Hk := zMk hlt
      clear hC hR hj hjz hlt
      dsimp only at hy
      rw [zTn] at hx
      have p4 : decide ((j : Int) < (xs.length : Int)) = true := decide_eq_true hjL'
      gi_wp2
      refine HR.out.mono ?_
      rintro e W3 (⟨rfl, hJ3, hk3⟩ | ⟨rfl, hJx3⟩)
      · have hw1 : IntKind.i64.wrap ((j : Int) - 1) = (j : Int) - 1 := by rw [i64_w]; unfold wrap64; omega
        gi_wp2
        go_roundw
        case rel => exact ⟨k + 1, Hk.out, by have := Hjz.out; congr 1; omega, ⟨by unfold bwd; simp only [Hj.out]; exact hJ3⟩, ⟨hkp.out.trans hk3⟩⟩
        case measure => simp [intOf] <;> omega
      · gi_wp2
        refine bodyPost_ret (results_none rfl _ _ _) rfl ?_
        exact ⟨⟨_, rfl⟩, .inr ⟨_, ⟨k + 1, Hk.out, rfl⟩, by unfold bwd; simp only [Hj.out]; exact hJx3⟩⟩
    · obtain rfl : k = xs.length := by omega
      have hj0 : (xs.length : Int) - 1 - (xs.length : Int) = -1 := by omega
      rw [hj0]
      clear hj0
      gi_wp2
      go_end0
      exact ⟨⟨_, rfl⟩, .inl ⟨_, rfl, hJs.out⟩⟩
set_option maxHeartbeats 1000000 in
theorem slices_Backward_uint32_uint32.calls (A0 : Option Addr) (n c0 : Nat) (w : World) :
    Calls Tryd.prog 71 #[.slice A0 n c0] w fun e w' => e = .returned (.func (.func 82) #[] #[.pointer (some ⟨w.heap.size, 0, none⟩)]) ∧ w' = w.alloc (.cells #[.slice A0 n c0] 22) := by
  go_enter Tryd.func71, Tryd.ntmps71
  go_wp2
  go_ret
  exact ⟨rfl, rfl⟩
theorem slices_Backward_uint32_uint32.stops (F : Fence) (n : Nat) (h8 : F.fn 82) (hro : F.round = none) (hn : 1 ≤ n) (Bs cap : Nat) (A : Option Addr) (xs : List Int) (hcap : xs.length ≤ cap) (ok : Nat → Prop) (hBok : ok Bs) (w : World) (hok : ∀ k, ok k → k < w.heap.size)
    (hc : w.cell? ⟨Bs, 0, none⟩ = some (.slice A xs.length cap)) (hF : Kd.F (Kd.int .u32) w ok A xs.length xs) :
    SeqStopsK F n Tryd.prog 82 #[.pointer (some ⟨Bs, 0, none⟩)] (fun x : { i : Nat // i < xs.length } => #[Value.int .i64 (x.1 : Int), Value.int .u32 (rd xs (x.1 : Int))]) (KeepOk ok) (fun ys => ys = bwd xs.length xs.length (Nat.le_refl _))
      (fun pre => ∃ k h, pre = bwd xs.length k h) xs.length w := fun l J Jx W hW _ _ hY h0 =>
  slices_Backward_uint32_uint32.closure F n h8 hro hn l Bs cap A xs hcap ok hBok J Jx hY W ((hW.cell (p := ⟨Bs, 0, none⟩) (hok _ hBok)).trans hc) (Kd.F_step hF (fun k _ hlt => hW.block k hlt)) h0


def cmp_isNaN_uint32.f (a0 : Int) : Option (Bool) := some (a0 != a0)
set_option maxHeartbeats 8000000 in
set_option maxRecDepth 100000 in
theorem cmp_isNaN_uint32.calls (a0 : Int) (r : Bool) (w : World) (h : cmp_isNaN_uint32.f a0 = some r) :
    Calls Tryd.prog 83 #[.int .u32 a0] w fun e w' => e = .returned (.bool r) ∧ Drawn0 w w' := by
  have H : (some (a0 != a0)) = some r := h
  clear h
  obtain rfl := zOi H
  go_enter Tryd.func83, Tryd.ntmps83
  go_wp2
  go_ret
  exact ⟨by first | rfl | (simp; done) | (simp [*]; done), by repeat (first | exact Drawn0.refl _ | apply Drawn0.step)⟩


def cmp_Compare_uint32.f (a0 : Int) (a1 : Int) : Option (Int) := (cmp_isNaN_uint32.f a0).bind fun t126 => ((cmp_isNaN_uint32.f a1).bind fun t127 => (if t126 = true then (if t127 = true then (some 0) else (some (-1))) else (if t127 = true then (some 1) else (if a0 < a1 then (some (-1)) else (if a0 > a1 then (some 1) else (some 0))))))
set_option maxHeartbeats 8000000 in
set_option maxRecDepth 100000 in
theorem cmp_Compare_uint32.calls (a0 : Int) (a1 : Int) (r : Int) (w : World) (h : cmp_Compare_uint32.f a0 a1 = some r) :
    Calls Tryd.prog 72 #[.int .u32 a0, .int .u32 a1] w fun e w' => e = .returned (.int .i64 r) ∧ Drawn0 w w' := by
  have H : ((cmp_isNaN_uint32.f a0).bind fun t126 => ((cmp_isNaN_uint32.f a1).bind fun t127 => (if t126 = true then (if t127 = true then (some 0) else (some (-1))) else (if t127 = true then (some 1) else (if a0 < a1 then (some (-1)) else (if a0 > a1 then (some 1) else (some 0))))))) = some r := h
  clear h
  replace H := bnd H
  obtain ⟨t126, A30, H⟩ := H
  have A3 := zMk A30
  clear A30
  replace H := bnd H
  obtain ⟨t127, A40, H⟩ := H
  have A4 := zMk A40
  clear A40
  by_cases c5 : t126 = true
  · subst c5
    have H1 : (if t127 = true then (some 0) else (some (-1))) = some r := by rw [if_pos rfl] at H; exact H
    clear H
    have H := H1
    clear H1
    by_cases c6 : t127 = true
    · subst c6
      have H1 : (some 0) = some r := by rw [if_pos rfl] at H; exact H
      clear H
      have H := H1
      clear H1
      obtain rfl := zOi H
      go_enter Tryd.func72, Tryd.ntmps72
      go_wp2_with (first | ((with_reducible refine gate_callee (f := 83) rfl ?_); refine goesL_ (some 8) rfl rfl Tryd.func83 (by kernel_rfl) rfl #[.int .u32 a0] rfl (by (try simp only [zMa, zMc, zMn]); first | done | rfl | (simp only [zLd, zLt]; rfl)) ?_; (with_reducible refine (cmp_isNaN_uint32.calls a0 true _ A3.out).mono ?_); rintro e w' ⟨rfl, ⟨nd, rfl⟩⟩; refine ⟨_, rfl, ?_⟩) | ((with_reducible refine gate_callee (f := 83) rfl ?_); refine goesL_ (some 10) rfl rfl Tryd.func83 (by kernel_rfl) rfl #[.int .u32 a1] rfl (by (try simp only [zMa, zMc, zMn]); first | done | rfl | (simp only [zLd, zLt]; rfl)) ?_; (with_reducible refine (cmp_isNaN_uint32.calls a1 true _ A4.out).mono ?_); rintro e w' ⟨rfl, ⟨nd, rfl⟩⟩; refine ⟨_, rfl, ?_⟩))
      go_ret
      exact ⟨by first | rfl | (simp; done) | (simp [*]; done), by repeat (first | exact Drawn0.refl _ | apply Drawn0.step)⟩
    · replace c6 := Bool.eq_false_iff.mpr c6
      subst c6
      have H1 : (some (-1)) = some r := by rw [if_neg (show ¬ (false = true) by decide)] at H; exact H
      clear H
      have H := H1
      clear H1
      obtain rfl := zOi H
      go_enter Tryd.func72, Tryd.ntmps72
      go_wp2_with (first | ((with_reducible refine gate_callee (f := 83) rfl ?_); refine goesL_ (some 8) rfl rfl Tryd.func83 (by kernel_rfl) rfl #[.int .u32 a0] rfl (by (try simp only [zMa, zMc, zMn]); first | done | rfl | (simp only [zLd, zLt]; rfl)) ?_; (with_reducible refine (cmp_isNaN_uint32.calls a0 true _ A3.out).mono ?_); rintro e w' ⟨rfl, ⟨nd, rfl⟩⟩; refine ⟨_, rfl, ?_⟩) | ((with_reducible refine gate_callee (f := 83) rfl ?_); refine goesL_ (some 10) rfl rfl Tryd.func83 (by kernel_rfl) rfl #[.int .u32 a1] rfl (by (try simp only [zMa, zMc, zMn]); first | done | rfl | (simp only [zLd, zLt]; rfl)) ?_; (with_reducible refine (cmp_isNaN_uint32.calls a1 false _ A4.out).mono ?_); rintro e w' ⟨rfl, ⟨nd, rfl⟩⟩; refine ⟨_, rfl, ?_⟩))
      go_ret
      exact ⟨by first | rfl | (simp; done) | (simp [*]; done), by repeat (first | exact Drawn0.refl _ | apply Drawn0.step)⟩
  · replace c5 := Bool.eq_false_iff.mpr c5
    subst c5
    have H1 : (if t127 = true then (some 1) else (if a0 < a1 then (some (-1)) else (if a0 > a1 then (some 1) else (some 0)))) = some r := by rw [if_neg (show ¬ (false = true) by decide)] at H; exact H
    clear H
    have H := H1
    clear H1
    by_cases c7 : t127 = true
    · subst c7
      have H1 : (some 1) = some r := by rw [if_pos rfl] at H; exact H
      clear H
      have H := H1
      clear H1
      obtain rfl := zOi H
      go_enter Tryd.func72, Tryd.ntmps72
      go_wp2_with (first | ((with_reducible refine gate_callee (f := 83) rfl ?_); refine goesL_ (some 8) rfl rfl Tryd.func83 (by kernel_rfl) rfl #[.int .u32 a0] rfl (by (try simp only [zMa, zMc, zMn]); first | done | rfl | (simp only [zLd, zLt]; rfl)) ?_; (with_reducible refine (cmp_isNaN_uint32.calls a0 false _ A3.out).mono ?_); rintro e w' ⟨rfl, ⟨nd, rfl⟩⟩; refine ⟨_, rfl, ?_⟩) | ((with_reducible refine gate_callee (f := 83) rfl ?_); refine goesL_ (some 10) rfl rfl Tryd.func83 (by kernel_rfl) rfl #[.int .u32 a1] rfl (by (try simp only [zMa, zMc, zMn]); first | done | rfl | (simp only [zLd, zLt]; rfl)) ?_; (with_reducible refine (cmp_isNaN_uint32.calls a1 true _ A4.out).mono ?_); rintro e w' ⟨rfl, ⟨nd, rfl⟩⟩; refine ⟨_, rfl, ?_⟩))
      go_ret
      exact ⟨by first | rfl | (simp; done) | (simp [*]; done), by repeat (first | exact Drawn0.refl _ | apply Drawn0.step)⟩
    · replace c7 := Bool.eq_false_iff.mpr c7
      subst c7
      have H1 : (if a0 < a1 then (some (-1)) else (if a0 > a1 then (some 1) else (some 0))) = some r := by rw [if_neg (show ¬ (false = true) by decide)] at H; exact H
      clear H
      have H := H1
      clear H1
      by_cases c8 : a0 < a1
      · rw [if_pos c8] at H
        have c8b0 : decide (a0 < a1) = true := decide_eq_true c8
        clear c8
        obtain rfl := zOi H
        go_enter Tryd.func72, Tryd.ntmps72
        go_wp2_with (first | ((with_reducible refine gate_callee (f := 83) rfl ?_); refine goesL_ (some 8) rfl rfl Tryd.func83 (by kernel_rfl) rfl #[.int .u32 a0] rfl (by (try simp only [zMa, zMc, zMn]); first | done | rfl | (simp only [zLd, zLt]; rfl)) ?_; (with_reducible refine (cmp_isNaN_uint32.calls a0 false _ A3.out).mono ?_); rintro e w' ⟨rfl, ⟨nd, rfl⟩⟩; refine ⟨_, rfl, ?_⟩) | ((with_reducible refine gate_callee (f := 83) rfl ?_); refine goesL_ (some 10) rfl rfl Tryd.func83 (by kernel_rfl) rfl #[.int .u32 a1] rfl (by (try simp only [zMa, zMc, zMn]); first | done | rfl | (simp only [zLd, zLt]; rfl)) ?_; (with_reducible refine (cmp_isNaN_uint32.calls a1 false _ A4.out).mono ?_); rintro e w' ⟨rfl, ⟨nd, rfl⟩⟩; refine ⟨_, rfl, ?_⟩))
        go_ret
        exact ⟨by first | rfl | (simp; done) | (simp [*]; done), by repeat (first | exact Drawn0.refl _ | apply Drawn0.step)⟩
      · rw [if_neg c8] at H
        have c8b0 : decide (a0 < a1) = false := decide_eq_false c8
        clear c8
        by_cases c9 : a0 > a1
        · rw [if_pos c9] at H
          have c9b0 : decide (a1 < a0) = true := decide_eq_true c9
          clear c9
          obtain rfl := zOi H
          go_enter Tryd.func72, Tryd.ntmps72
          go_wp2_with (first | ((with_reducible refine gate_callee (f := 83) rfl ?_); refine goesL_ (some 8) rfl rfl Tryd.func83 (by kernel_rfl) rfl #[.int .u32 a0] rfl (by (try simp only [zMa, zMc, zMn]); first | done | rfl | (simp only [zLd, zLt]; rfl)) ?_; (with_reducible refine (cmp_isNaN_uint32.calls a0 false _ A3.out).mono ?_); rintro e w' ⟨rfl, ⟨nd, rfl⟩⟩; refine ⟨_, rfl, ?_⟩) | ((with_reducible refine gate_callee (f := 83) rfl ?_); refine goesL_ (some 10) rfl rfl Tryd.func83 (by kernel_rfl) rfl #[.int .u32 a1] rfl (by (try simp only [zMa, zMc, zMn]); first | done | rfl | (simp only [zLd, zLt]; rfl)) ?_; (with_reducible refine (cmp_isNaN_uint32.calls a1 false _ A4.out).mono ?_); rintro e w' ⟨rfl, ⟨nd, rfl⟩⟩; refine ⟨_, rfl, ?_⟩))
          go_ret
          exact ⟨by first | rfl | (simp; done) | (simp [*]; done), by repeat (first | exact Drawn0.refl _ | apply Drawn0.step)⟩
        · rw [if_neg c9] at H
          have c9b0 : decide (a1 < a0) = false := decide_eq_false c9
          clear c9
          obtain rfl := zOi H
          go_enter Tryd.func72, Tryd.ntmps72
          go_wp2_with (first | ((with_reducible refine gate_callee (f := 83) rfl ?_); refine goesL_ (some 8) rfl rfl Tryd.func83 (by kernel_rfl) rfl #[.int .u32 a0] rfl (by (try simp only [zMa, zMc, zMn]); first | done | rfl | (simp only [zLd, zLt]; rfl)) ?_; (with_reducible refine (cmp_isNaN_uint32.calls a0 false _ A3.out).mono ?_); rintro e w' ⟨rfl, ⟨nd, rfl⟩⟩; refine ⟨_, rfl, ?_⟩) | ((with_reducible refine gate_callee (f := 83) rfl ?_); refine goesL_ (some 10) rfl rfl Tryd.func83 (by kernel_rfl) rfl #[.int .u32 a1] rfl (by (try simp only [zMa, zMc, zMn]); first | done | rfl | (simp only [zLd, zLt]; rfl)) ?_; (with_reducible refine (cmp_isNaN_uint32.calls a1 false _ A4.out).mono ?_); rintro e w' ⟨rfl, ⟨nd, rfl⟩⟩; refine ⟨_, rfl, ?_⟩))
          go_ret
          exact ⟨by first | rfl | (simp; done) | (simp [*]; done), by repeat (first | exact Drawn0.refl _ | apply Drawn0.step)⟩



section
attribute [local go_sem] Oper.semAt_some
def cmpI (a b : Int) : Int := if a < b then -1 else if a > b then 1 else 0
def cmpTop (a b : List Int) : Nat → Int
  | 0 => 0
  | n + 1 => if a.getD n 0 = b.getD n 0 then cmpTop a b n else cmpI (a.getD n 0) (b.getD n 0)
def n_Cmp.f (l0 l1 : List Int) : Option Int := some (if cutLen l0 l0.length = cutLen l1 l1.length then cmpTop l0 l1 (cutLen l0 l0.length) else cmpI (cutLen l0 l0.length : Nat) (cutLen l1 l1.length : Nat))
theorem cmpI_int (a b : Int) : cmp_Compare_int.f a b = some (cmpI a b) := by
  unfold cmp_Compare_int.f cmp_isNaN_int.f cmpI
  simp only [bne_self_eq_false, zOb, Bool.false_eq_true, if_false]
  split
  · rfl
  · split <;> rfl
theorem cmpI_u32 (a b : Int) : cmp_Compare_uint32.f a b = some (cmpI a b) := by
  unfold cmp_Compare_uint32.f cmp_isNaN_uint32.f cmpI
  simp only [bne_self_eq_false, zOb, Bool.false_eq_true, if_false]
  split
  · rfl
  · split <;> rfl
theorem cmpTop_zero (a b : List Int) : ∀ n, (∀ i, i < n → a.getD i 0 = b.getD i 0) → cmpTop a b n = 0
  | 0, _ => rfl
  | n + 1, h => by
    unfold cmpTop
    rw [if_pos (h n (Nat.lt_succ_self n))]
    exact cmpTop_zero a b n fun i hi => h i (Nat.lt_succ_of_lt hi)
theorem cmpTop_at (a b : List Int) : ∀ n j, j < n → a.getD j 0 ≠ b.getD j 0 → (∀ i, j < i → i < n → a.getD i 0 = b.getD i 0) → cmpTop a b n = cmpI (a.getD j 0) (b.getD j 0)
  | 0, _, hj, _, _ => absurd hj (Nat.not_lt_zero _)
  | n + 1, j, hj, hne, h => by
    unfold cmpTop
    rcases Nat.lt_or_ge j n with h1 | h1
    · rw [if_pos (h n h1 (Nat.lt_succ_self n))]
      exact cmpTop_at a b n j h1 hne fun i hi hi2 => h i hi (Nat.lt_succ_of_lt hi2)
    · obtain rfl : j = n := by omega
      rw [if_neg hne]
set_option maxRecDepth 100000 in
set_option maxHeartbeats 4000000 in
theorem n_Cmp.calls (A0 : Option Addr) (c0 : Nat) (l0 : List Int) (A1 : Option Addr) (c1 : Nat) (l1 : List Int) (r : Int) (w : World) (hr0 : Kd.C (Kd.int .u32) w A0 l0.length l0) (hc0 : l0.length ≤ c0) (hr1 : Kd.C (Kd.int .u32) w A1 l1.length l1) (hc1 : l1.length ≤ c1) (h : n_Cmp.f l0 l1 = some r) :
    Calls Tryd.prog 49 #[.slice A0 l0.length c0, .slice A1 l1.length c1] w fun e w' => e = .returned (.int .i64 r) ∧ Below w.heap.size w w' := by
  have HR0 := zMk hr0
  have HC0 := zMk hc0
  have HR1 := zMk hr1
  have HC1 := zMk hc1
  have HH := zMk h
  clear hr0 hc0 hr1 hc1 h
  obtain ⟨m, hm⟩ : ∃ m, cutLen l0 l0.length = m := ⟨_, rfl⟩
  obtain ⟨n, hn⟩ : ∃ n, cutLen l1 l1.length = n := ⟨_, rfl⟩
  have kc0 : ∀ W : World, Kd.C (Kd.int .u32) W A0 l0.length l0 → Calls Tryd.prog 56 #[.slice A0 l0.length c0] W fun e w' => e = .returned (.slice A0 m c0) ∧ w' = W := fun W h => (n_cut.exact A0 c0 l0 W h HC0.out).mono (fun e w' ⟨he, hw⟩ => ⟨by rw [he, hm], hw.symm⟩)
  have kc1 : ∀ W : World, Kd.C (Kd.int .u32) W A1 l1.length l1 → Calls Tryd.prog 56 #[.slice A1 l1.length c1] W fun e w' => e = .returned (.slice A1 n c1) ∧ w' = W := fun W h => (n_cut.exact A1 c1 l1 W h HC1.out).mono (fun e w' ⟨he, hw⟩ => ⟨by rw [he, hn], hw.symm⟩)
  have K0 := zMk kc0
  have K1 := zMk kc1
  have HM := zMk hm
  have HN := zMk hn
  clear kc0 kc1 hm hn
  refine (callsIn_wide (n := 3)).1 ?_
  refine callsIn_of_wp_marks Tryd.func49 rfl trivial ?_ rfl
  refine wpIn_wide.2 ?_
  simp only [Tryd.ntmps49, List.size_toArray, zLc, zLn, Nat.reduceAdd, Nat.reduceSub, Array.replicate_succ, Array.replicate_zero, List.push_toArray, List.append_toArray, List.nil_append, List.cons_append]
  have bB := Boxed.new w 22 (.slice A1 l1.length c1)
  have bR := Boxed.new (w.alloc (.cells #[.slice A1 l1.length c1] 22)) 3 (.int .i64 0)
  rw [World.size_alloc] at bR
  have hB0 : Below w.heap.size w ((w.alloc (.cells #[.slice A1 l1.length c1] 22)).alloc (.cells #[.int .i64 0] 3)) := ((Below.refl _ w).alloc (Nat.le_refl _) _).alloc (by simp) _
  have bB := bB.alloc (.cells #[.int .i64 0] 3)
  go_wp2
  generalize ((w.alloc (.cells #[.slice A1 l1.length c1] 22)).alloc (.cells #[.int .i64 0] 3)) = W0 at bB bR hB0 ⊢
  have bB2 := bB.set (.slice A1 n c1)
  have bR2 := bR.other (B' := w.heap.size) (by omega) (.slice A1 n c1)
  have hB2 : Below w.heap.size w (W0.setCell ⟨w.heap.size, 0, none⟩ (.slice A1 n c1)) := hB0.setCell (p := ⟨w.heap.size, 0, none⟩) (Nat.le_refl _) _
  obtain ⟨W2, hW2⟩ : ∃ W2, W0.setCell ⟨w.heap.size, 0, none⟩ (.slice A1 n c1) = W2 := ⟨_, rfl⟩
  rw [hW2] at bB2 bR2 hB2
  have hR2 : (w.heap.size + 1) < W2.heap.size := bR2.lt
  have cB := bB.cell
  have fB := bB.frozen
  have cB2 := bB2.cell
  have cR2 := bR2.cell
  have fR2 := bR2.frozen
  have hml := cutLen_le l0 l0.length
  have hnl := cutLen_le l1 l1.length
  rw [HM.out] at hml
  rw [HN.out] at hnl
  have hm0 := HR0.out.2.1
  have hn0 := HR1.out.2.1
  have HR0' := HR0
  have HR1' := HR1
  have HR0 := zMk (Kd.C_below HR0.out hB0)
  have HR1 := zMk (Kd.C_below HR1.out hB0)
  go_still_tail 5, (by kernel_rfl)
  show wpStill _ _ W0.drew _ _ _
  still_call (K0.out W0.drew (zCd HR0.out))
  repeat still_step
  still_call (K1.out W0.drew (zCd HR1.out))
  repeat still_step
  refine wpStill_nil ?_
  change wpList _ _ _ _ _ W0.drew
  by_cases hmn : m = n
  · have hz : (cmpI (m : Int) (n : Int) != 0) = false := by subst hmn; simp [cmpI]
    have hz0 : cmpI (m : Int) (n : Int) = 0 := by subst hmn; simp [cmpI]
    have HMN := zMk hmn
    clear hmn
    go_wp2_with (first | (go_at_call 70; refine (cmp_Compare_int.calls (m : Int) (n : Int) _ _ (cmpI_int _ _)).mono ?_; rintro e w' ⟨rfl, ⟨nd, rfl⟩⟩) | (go_at_call 71; refine (slices_Backward_uint32_uint32.calls _ _ _ _).mono ?_; rintro e w' ⟨rfl, rfl⟩))
    have hdb := zBn (Below.refl W2.heap.size W2) (1 + nd)
    have bB3 : Boxed (W2.drewN (1 + nd)) w.heap.size 22 (.slice A1 n c1) := (hdb.block _ bB2.lt).trans bB2
    have bR3 : Boxed (W2.drewN (1 + nd)) (w.heap.size + 1) 3 (.int .i64 0) := (hdb.block _ bR2.lt).trans bR2
    have hB3 : Below w.heap.size w (W2.drewN (1 + nd)) := zBn hB2 _
    have hs3 : (W2.drewN (1 + nd)).heap.size = W2.heap.size := by simp
    generalize W2.drewN (1 + nd) = W3 at hdb bB3 bR3 hB3 hs3 ⊢
    have hR3 : (w.heap.size + 1) < W3.heap.size := bR3.lt
    have bN := Boxed.new W3 22 (.slice A0 m c0)
    have hB3s := hB3.size
    have hW3s : (W3.alloc (.cells #[.slice A0 m c0] 22)).heap.size = W2.heap.size + 1 := by rw [World.size_alloc, hs3]
    rw [hs3] at bN hB3s hR3
    have hB4 : Below w.heap.size w (W3.alloc (.cells #[.slice A0 m c0] 22)) := hB3.alloc hB3.size _
    have hlt : (l0.take m).length = m := by rw [zLt]; omega
    have hF0 : Kd.F (Kd.int .u32) (W3.alloc (.cells #[.slice A0 m c0] 22)) (fun k => k < w.heap.size ∨ k = W2.heap.size) A0 (l0.take m).length (l0.take m) := Kd.F_mono (Kd.F_step (Kd.F_take (Kd.C_F (Kd.heap_int .u32) HR0'.out) hml) (fun k hk _ => hB4.block k hk)) (fun k hk => .inl hk)
    have hC1 : ∀ W, Below w.heap.size w W → ∀ i : Int, 0 ≤ i → i < (n : Int) → ∃ ad, A1 = some ad ∧ W.cell? (ad.add i.toNat) = some (.int .u32 (rd l1 i)) := fun W hW i h0 h1 => by
      have hc := Kd.C_below HR1'.out hW
      exact zAi hc i h0 (by omega)
    refine (wpIn_wide (n := 3)).1 ?_
    refine wpIn_rangeFunc_ownG (n := 3) rfl (by omega) (gf := 82) (lb := #[.pointer (some ⟨W2.heap.size, 0, none⟩)]) rfl trivial (enters_of Tryd.func82 (by kernel_rfl) rfl)
      (slices_Backward_uint32_uint32.stops Fence.wide 2 trivial rfl (by omega) W2.heap.size c0 A0 (l0.take m) (by have := HC0.out; omega) (fun k => k < w.heap.size ∨ k = W2.heap.size) (.inr rfl) _ (fun k hk => by rw [hW3s]; omega) (by rw [hlt]; exact bN.cell) hF0)
      KeepOk.trans (KeepOk.turn (fun k hk => by rw [hW3s]; omega)) (Below.refl _ _) (fun _ => rfl)
      (fun pre W => ((∀ p ∈ pre, rd l1 (p.1 : Int) = rd l0 (p.1 : Int)) ∧ Boxed W w.heap.size 22 (.slice A1 n c1) ∧ Boxed W (w.heap.size + 1) 3 (.int .i64 0)) ∧ Below w.heap.size w W)
      (fun c pre W => (c = .ret ∧ ∃ ini last, pre = ini ++ [last] ∧ (∀ p ∈ ini, rd l1 (p.1 : Int) = rd l0 (p.1 : Int)) ∧ rd l0 (last.1 : Int) ≠ rd l1 (last.1 : Int) ∧ W.cell? ⟨w.heap.size + 1, 0, none⟩ = some (.int .i64 (cmpI (rd l0 (last.1 : Int)) (rd l1 (last.1 : Int))))) ∧ Below w.heap.size w W)
      (OwnFrom.and (Own.from (fun s A B row hs hg hr => ⟨hs.1, hs.2.1.kept hg (fun e => by obtain ⟨o, ho, hc⟩ := hr _ e.symm; rw [show A.heap[w.heap.size]? = _ from hs.2.1] at ho; cases ho; simp [Obj.isCells] at hc), hs.2.2.kept hg (fun e => by obtain ⟨o, ho, hc⟩ := hr _ e.symm; rw [show A.heap[w.heap.size + 1]? = _ from hs.2.2] at ho; cases ho; simp [Obj.isCells] at hc)⟩) _) (ownFrom_below (Nat.le_refl _) (by rw [hW3s]; omega)))
      (fun c => OwnFrom.and (Own.from (fun s A B row hs hg hr => by obtain ⟨hc, ini, last, e1, e2, e3, e4⟩ := hs; exact ⟨hc, ini, last, e1, e2, e3, cell_kept e4 hg hr⟩) _) (ownFrom_below (Nat.le_refl _) (by rw [hW3s]; omega)))
      ⟨⟨by simp, bB3.alloc _, bR3.alloc _⟩, hB4⟩
      (fun x => { tmps := #[.slice A0 m c0, .slice A1 l1.length c1, undef, .pointer (some ⟨w.heap.size, 0, none⟩), .pointer (some ⟨w.heap.size + 1, 0, none⟩), .int .i64 0, .int .i64 (x.1 : Int), .int .u32 (rd (l0.take m) (x.1 : Int)), .slice A0 l0.length c0, .slice A0 m c0, .slice A1 l1.length c1, .slice A1 n c1, .slice A0 m c0, .int .i64 m, .slice A1 n c1, .int .i64 n, .int .i64 0, .int .i64 0, .bool false, undef, .slice A0 m c0, .func (.func 82) #[] #[.pointer (some ⟨W2.heap.size, 0, none⟩)], .int .i64 (x.1 : Int), .int .u32 (rd (l0.take m) (x.1 : Int)), undef, undef, undef, undef, undef, undef, undef, undef, undef, undef, undef, undef], defers := [] }) ?assign ?body ?done ?stop
    case assign =>
      intro l x W K hK
      gi_wp2
      exact hK
    case body =>
      rintro l pre ⟨x, hx⟩ W ⟨⟨hp, hb, hr⟩, hB⟩ _
      rw [hlt] at hx
      have hxn : x < n := by have := HMN.out; omega
      obtain ⟨ad1, e1, hcx⟩ := hC1 W hB (x : Int) (by omega) (by omega)
      subst e1
      have hbc := hb.cell
      have hrc := hr.cell
      have hrf := hr.frozen
      have p4 : decide ((x : Int) < (n : Int)) = true := decide_eq_true (by omega)
      have hrd : rd (l0.take m) (x : Int) = rd l0 (x : Int) := by unfold rd; simp [List.getD_eq_getElem?_getD, List.getElem?_take, hx]
      simp only [hrd]
      rw [zTn] at hcx
      by_cases he : rd l0 (x : Int) = rd l1 (x : Int)
      · have q1 : (rd l0 (x : Int) != rd l1 (x : Int)) = false := by rw [he]; simp
        clear hrd
        gi_wp2
        exact ⟨KeepsFrom.refl _ _, KeepOk.refl _ _, ⟨fun p hp' => (List.mem_append.1 hp').elim (hp p) (fun e => by rw [List.mem_singleton.1 e]; exact he.symm), hb, hr⟩, hB⟩
      · have q1 : (rd l0 (x : Int) != rd l1 (x : Int)) = true := by simpa using he
        clear hrd
        gi_wp2_with (refine ⟨trivial, ?_⟩; gi_at_call 72; refine (CallsIn.inRound l (callsIn_wide.2 (cmp_Compare_uint32.calls (rd l0 (x : Int)) (rd l1 (x : Int)) _ _ (cmpI_u32 _ _)))).mono ?_; rintro e w' ⟨rfl, ⟨nd, rfl⟩⟩)
        refine ⟨?_, ⟨rfl, pre, _, rfl, hp, he, ?_⟩, (zBn hB _).setCell (p := ⟨w.heap.size + 1, 0, none⟩) (Nat.le_succ _) _⟩
        · have hdb2 := zBn (Below.refl W.heap.size W) nd
          exact (KeepsOthers.trans ⟨hdb2.size, fun i o h _ => (hdb2.block i (Array.getElem?_eq_some_iff.1 h).1).trans h⟩ (KeepsOthers.setCell _ _ _)).from _
        · exact World.cell?_setCell_same' _ _ _ (by rw [(zBn (Below.refl _ W) nd).cell (p := ⟨w.heap.size + 1, 0, none⟩) hr.lt, hrc]; rfl)
    case done =>
      rintro D ys W hD rfl ⟨⟨hp, hb, hr⟩, hB⟩ hK
      have hrc := hr.cell
      have hrf := hr.frozen
      go_wp2
      have hK' := (KeepsOthers.setCell W ⟨w.heap.size + 1, 0, none⟩ (.int .i64 0)).same D _ hK rfl
      refine ⟨by simp, .inl ⟨_, _, rfl, run_takeDeferred hK', ?_⟩⟩
      have hc5 := cell_kept (World.cell?_setCell_same' W ⟨w.heap.size + 1, 0, none⟩ (.int .i64 0) (by rw [hrc]; rfl)) (grownBy_putObj' _ D (.deferred none)) (fun r e => by cases e; exact ⟨_, hK', rfl⟩)
      have hz2 : (0 : Int) = r := by
        have h2 := HH.out
        unfold n_Cmp.f at h2
        rw [HM.out, HN.out, if_pos HMN.out] at h2
        rw [← zOi h2]
        refine (cmpTop_zero l0 l1 m fun i hi => ?_).symm
        have := hp ⟨i, by rw [hlt]; exact hi⟩ (bwd_mem _ _ _ i (by rw [hlt]; exact hi) (by omega))
        simpa [rd] using this.symm
      refine ⟨.int .i64 0, ?_, by rw [hz2], (hB.setCell (p := ⟨w.heap.size + 1, 0, none⟩) (Nat.le_succ _) _).trans (belowK_b (w := w) (Nat.le_refl _) _ D _ _ (by rw [hW3s] at hD; omega) hK' rfl rfl)⟩
      simp [results, Tryd.f49, go_sem, hc5]
    case stop =>
      rintro D c pre W hD ⟨k, hk, rfl⟩ ⟨⟨rfl, ini, last, e1, e2, e3, hcr⟩, hB⟩ hK
      refine (wpIn_wide (n := 3)).2 ?_
      go_wp2
      refine ⟨by simp, .inl ⟨_, _, rfl, run_takeDeferred hK, ?_⟩⟩
      have hc5 := cell_kept hcr (grownBy_putObj' _ D (.deferred none)) (fun r e => by cases e; exact ⟨_, hK, rfl⟩)
      obtain ⟨k', h', rfl, rfl, hlast⟩ := bwd_last _ e1
      have hr2 : cmpI (rd l0 (last.1 : Int)) (rd l1 (last.1 : Int)) = r := by
        have h2 := HH.out
        unfold n_Cmp.f at h2
        rw [HM.out, HN.out, if_pos HMN.out] at h2
        rw [← zOi h2]
        have hl1 := last.2
        refine (cmpTop_at l0 l1 m last.1 (by omega) (by simpa [rd] using e3) fun i hi hi2 => ?_).symm
        have := e2 ⟨i, by rw [hlt]; exact hi2⟩ (bwd_mem _ _ _ i (by rw [hlt]; exact hi2) (by omega))
        simpa [rd] using this.symm
      refine ⟨.int .i64 (cmpI (rd l0 (last.1 : Int)) (rd l1 (last.1 : Int))), ?_, by rw [hr2], hB.trans (belowK_b (w := w) (Nat.le_refl _) W D _ _ (by rw [hW3s] at hD; omega) hK rfl rfl)⟩
      simp [results, Tryd.f49, go_sem, hc5]
  · have hz : (cmpI (m : Int) (n : Int) != 0) = true := by
      unfold cmpI
      split
      · rfl
      · split
        · rfl
        · omega
    have HMN := zMk hmn
    clear hmn
    go_wp2_with (go_at_call 70; refine (cmp_Compare_int.calls (m : Int) (n : Int) _ _ (cmpI_int _ _)).mono ?_; rintro e w' ⟨rfl, ⟨nd, rfl⟩⟩)
    have hc5 : ((W2.drewN (1 + nd)).setCell ⟨w.heap.size + 1, 0, none⟩ (.int .i64 (cmpI m n))).cell? ⟨w.heap.size + 1, 0, none⟩ = some (.int .i64 (cmpI m n)) := World.cell?_setCell_same' _ _ _ (by rw [((zBn (Below.refl _ W2) (1 + nd)).cell (p := ⟨w.heap.size + 1, 0, none⟩) hR2), cR2]; rfl)
    have hr : cmpI m n = r := by have h2 := HH.out; unfold n_Cmp.f at h2; rw [HM.out, HN.out, if_neg HMN.out] at h2; exact zOi h2
    refine ⟨.int .i64 (cmpI m n), ?_, ?_⟩
    · simp [results, Tryd.f49, go_sem, hc5]
    · exact ⟨by rw [hr], (zBn hB2 _).setCell (p := ⟨w.heap.size + 1, 0, none⟩) (Nat.le_succ _) _⟩

end



def slices_Clone_uint32_uint32.f (l0 : List Int) : Option (List Int) := if l0.length < 35184372088832 then some l0 else none
set_option maxHeartbeats 1000000 in
theorem slices_Clone_uint32_uint32.calls (A0 : Option Addr) (c0 : Nat) (l0 : List Int) (r : List Int) (w : World) (hr0 : Kd.C (Kd.int .u32) w A0 l0.length l0) (hc0 : l0.length ≤ c0) (h : slices_Clone_uint32_uint32.f l0 = some r) :
    Calls Tryd.prog 78 #[.slice A0 l0.length c0] w fun e w' => ∃ v0_ : Value, e = .returned (v0_) ∧ Kd.R (Kd.int .u32) 58 w' w.heap.size (fun _ => True) v0_ r ∧ Below w.heap.size w w' := by
  have HR0 := zMk hr0
  have HB := zMk (Below.refl w.heap.size w)
  unfold slices_Clone_uint32_uint32.f at h
  by_cases hl : l0.length < 35184372088832
  · rw [if_pos hl] at h
    obtain rfl := zOi h
    have LM := zMk hl
    clear hl h hr0
    have knil : ∀ (W : World) (a : Option Addr) (n c : Nat), (binOp .eql 22 (.slice a n c) (.slice none 0 0)).run Tryd.prog W = .ok (.bool a.isNone) W := fun W a n c => Lib.run_eql_slice_nil W 22 58 a n c 0 0 Tryd.underlying22
    cases A0 with
    | none =>
      have h0 : l0 = [] := by
        have h3 := HR0.out.2.2
        rcases Nat.eq_zero_or_pos l0.length with h4 | h4
        · exact List.eq_nil_of_length_eq_zero h4
        · obtain ⟨ad, e, _⟩ := h3 h4
          cases e
      subst h0
      go_enter Tryd.func78, Tryd.ntmps78
      go_wp2
      go_ret
      exact ⟨_, rfl, Kd.R_nil _ _ _ _ _, HB.out⟩
    | some ad =>
      go_enter Tryd.func78, Tryd.ntmps78
      go_wp2_with (first |  ((with_reducible refine gate_dst (N := 5) rfl ?_); refine Kd.R_lit (Kd.int .u32) _ 58 ?hg (N := 5) ?hd (xs := ([] : List Int)) (inner := []) (ok := fun _ => True) (okp := fun _ => True) ?hr ?hp (fun _ hk => hk) trivial (Below.refl _ _) (Nat.le_refl _) (by simp) ?_; (case hd => rfl); (case hg => rfl); (case hr => first |  (go_simp; done)|  (go_simp; rfl)); (case hp => exact (Reps.none _ _)); intro v247 w10 ho11 hb hg_ hnew_; clear hg_ hnew_; have HO248 := zMk (zRl ho11 (zBs HB.out)); replace HB := zMk (zBt HB.out hb); clear hb ho11)|  ((with_reducible refine gate_builtin (b := .append) (xs := #[.tmp 5, .tmp 6]) rfl ?_); at_builtin; refine Kd.R_append_rows (Kd.int .u32) (w0 := w) w.heap.size rfl (.tmp 5) (.tmp 6) 22 58 (.int .u32 0) 4 rfl Tryd.underlying22 info58 rfl (by decide) (by omega) v247 [] l0 _ _ _ (fun _ => True) (fun _ => False) rfl rfl HO248.out (Kd.C_below HR0.out HB.out) (fun _ _ h => h) (fun _ h => h.elim) (fun _ _ => trivial) HB.out (zBs HB.out) (by have := LM.out; simp only [zLn]; omega) ?_; intro v251 w13 ho hb hg hat; replace HB := zMk (hb); have HO252 := zMk (ho); clear HO248 ho hb hg hat))
      go_ret
      exact ⟨_, rfl, by simpa using HO252.out, HB.out⟩
  · rw [if_neg hl] at h
    cases h


def n_Norm.f (l0 : List Int) : Option (List Int) := (n_cut.f l0).bind fun t128 => ((slices_Clone_uint32_uint32.f t128).bind fun t131 => (some t131))
set_option maxHeartbeats 8000000 in
set_option maxRecDepth 100000 in
theorem n_Norm.calls (A0 : Option Addr) (c0 : Nat) (l0 : List Int) (r : List Int) (w : World) (hr0 : Kd.C (Kd.int .u32) w A0 l0.length l0) (hc0 : l0.length ≤ c0) (h : n_Norm.f l0 = some r) :
    Calls Tryd.prog 57 #[.slice A0 l0.length c0] w fun e w' => ∃ v0_ : Value, e = .returned (v0_) ∧ Kd.R (Kd.int .u32) 58 w' w.heap.size (fun _ => True) v0_ r ∧ Below w.heap.size w w' := by
  have HR0 := zMk hr0
  have HC0 := zMk hc0
  clear hr0 hc0
  have HB := zMk (Below.refl w.heap.size w)
  have H : ((n_cut.f l0).bind fun t128 => ((slices_Clone_uint32_uint32.f t128).bind fun t131 => (some t131))) = some r := h
  clear h
  replace H := bnd H
  obtain ⟨t128, A20, H⟩ := H
  have A2 := zMk A20
  clear A20
  replace H := bnd H
  obtain ⟨t131, A30, H⟩ := H
  have A3 := zMk A30
  clear A30
  obtain rfl := zOi H
  go_enter Tryd.func57, Tryd.ntmps57
  go_wp2_with (first |  ((with_reducible refine gate_callee (f := 56) rfl ?_); refine goesL_ (some 4) rfl rfl Tryd.func56 (by kernel_rfl) rfl #[.slice A0 l0.length c0] rfl (by (try simp only [zMa, zMc, zMn]); first |  done|  rfl|  (simp only [zLd, zLt]; rfl)) ?_; (with_reducible refine (n_cut.calls (fun k_ => k_ < w.heap.size) _ _ l0 t128 _ ?side1 A2.out).mono ?_); (case side1 => exact Kd.V_mk HC0.out (Kd.F_below (Kd.C_F (Kd.heap_int .u32) HR0.out) (by exact uT HB.out))); rintro e w4 ⟨v129, rfl, ho0, hb⟩; refine ⟨_, rfl, ?_⟩; have HO130 := zMk (zVl (zVm (ok' := fun k_ => True) ho0 (fun k_ hk_ => trivial)) (zBs (by exact uT HB.out))); replace HB := zMk (zBt (by exact uT HB.out) hb); (try clear hb); (try clear hb2); (try clear hk); (try clear hi); (try clear ho0); obtain ⟨Ao5, co5, eo5⟩ := zVs HO130.out; subst eo5)|  ((with_reducible refine gate_callee (f := 78) rfl ?_); refine goesL_ (some 5) rfl rfl Tryd.func78 (by kernel_rfl) rfl #[.slice Ao5 t128.length co5] rfl (by (try simp only [zMa, zMc, zMn]); first |  done|  rfl|  (simp only [zLd, zLt]; rfl)) ?_; (with_reducible refine (slices_Clone_uint32_uint32.calls _ _ t128 t131 _ ?side1 ?side2 A3.out).mono ?_); (case side1 => exact uC (zVr HO130.out).2.2); (case side2 => exact (zVr HO130.out).2.1); rintro e w6 ⟨v132, rfl, ho0, hb⟩; refine ⟨_, rfl, ?_⟩; replace HO130 := zMk (zVe (by exact uV HO130.out) (zRz ho0) hb); have HO133 := zMk (zRl ho0 (zBs (by exact uT HB.out))); replace HB := zMk (zBt (by exact uT HB.out) hb); (try clear hb); (try clear hb2); (try clear hk); (try clear hi); (try clear ho0)))
  go_ret
  exact ⟨_, by first | rfl | (simp [errW_none, errW_some] <;> rfl) | (simp [*, errW_none, errW_some] <;> rfl), by exact uR HO133.out, by exact uT HB.out⟩



section
attribute [local go_sem] Oper.semAt_some
def smallN (rest x : Int) : Int := bits .or .u64 (IntKind.u64.wrap (rest * 4294967296)) (IntKind.u64.wrap x)
theorem smallN_range (rest x : Int) : 0 ≤ smallN rest x ∧ smallN rest x ≤ 18446744073709551615 := by
  unfold smallN bits
  simp only [IntKind.wrap_u64]
  omega
def smallStep (l : List Int) (b : Int) (s : List Int × Int) (i : Nat) : List Int × Int := (s.1.set i (smallN s.2 (rd l (i : Int)) / b % 4294967296), smallN s.2 (rd l (i : Int)) % b)
def smallIt (l : List Int) (b : Int) : Nat → List Int × Int
  | 0 => (List.replicate l.length 0, 0)
  | k + 1 => smallStep l b (smallIt l b k) (l.length - 1 - k)
theorem smallIt_length (l : List Int) (b : Int) : ∀ k, (smallIt l b k).1.length = l.length
  | 0 => by simp [smallIt]
  | k + 1 => by simp [smallIt, smallStep, smallIt_length l b k]
def smallOf (l : List Int) (b : Int) (pre : List { i : Nat // i < l.length }) : List Int × Int := pre.foldl (fun s x => smallStep l b s x.1) (List.replicate l.length 0, 0)
theorem smallOf_snoc (l : List Int) (b : Int) (pre : List { i : Nat // i < l.length }) (x : { i : Nat // i < l.length }) : smallOf l b (pre ++ [x]) = smallStep l b (smallOf l b pre) x.1 := by simp [smallOf]
theorem smallOf_bwd (l : List Int) (b : Int) : ∀ k h, smallOf l b (bwd l.length k h) = smallIt l b k
  | 0, _ => rfl
  | k + 1, h => by rw [bwd, smallOf_snoc, smallOf_bwd l b k]; rfl
theorem smallOf_length (l : List Int) (b : Int) (pre : List { i : Nat // i < l.length }) : (smallOf l b pre).1.length = l.length := by
  unfold smallOf
  suffices h : ∀ s : List Int × Int, s.1.length = l.length → (pre.foldl (fun s x => smallStep l b s x.1) s).1.length = l.length from h _ (by simp)
  induction pre with
  | nil => exact fun s h => h
  | cons x pre ih => exact fun s h => ih _ (by simp [smallStep, h])
def n_small.f (l0 : List Int) (a1 : Int) : Option (List Int × Int) :=
  if l0.length ≤ 35184372088832 then if IntKind.u64.wrap a1 = 0 then none else some ((smallIt l0 (IntKind.u64.wrap a1) l0.length).1.take (cutLen (smallIt l0 (IntKind.u64.wrap a1) l0.length).1 l0.length), (smallIt l0 (IntKind.u64.wrap a1) l0.length).2 % 4294967296) else none
theorem keepCells {A B : World} {row : Option Nat} {g : Nat} {cs : Array Value} {t : TypeId} (h : A.heap[g]? = some (.cells cs t (0, 0))) (hg : A.grownBy B row) (hr : ∀ r, row = some r → ∃ o : Obj, A.heap[r]? = some o ∧ o.isCells = false) : B.heap[g]? = some (.cells cs t (0, 0)) :=
  (hg.block g (Array.getElem?_eq_some_iff.1 h).1 (fun e => by obtain ⟨o, ho, hc⟩ := hr _ e.symm; rw [h] at ho; cases ho; simp [Obj.isCells] at hc)).trans h
theorem C_of_block {W : World} {g : Nat} {t : TypeId} {k : IntKind} {xs : List Int} (h : W.heap[g]? = some (.cells (xs.map (Value.int k)).toArray t (0, 0))) (hm : xs.length ≤ 9223372036854775807) : Kd.C (Kd.int k) W (some ⟨g, 0, none⟩) xs.length xs := by
  refine ⟨rfl, hm, fun _ => ⟨⟨g, 0, none⟩, rfl, fun j p hj => ⟨[.int k p], rfl, rfl, fun i u hi => ?_⟩⟩⟩
  have hi0 : i = 0 := by
    have := (List.getElem?_eq_some_iff.1 hi).1
    simp at this
    omega
  subst hi0
  have hu : Value.int k p = u := by simpa using hi
  subst hu
  have hz : (Kd.int k).sz = 1 := rfl
  rw [hz, Nat.mul_one, Nat.add_zero, add_plain]
  simp [World.cell?, h, hj]
set_option maxRecDepth 100000 in
set_option maxHeartbeats 1000000 in
theorem n_small.calls (A0 : Option Addr) (c0 : Nat) (l0 : List Int) (a1 : Int) (r1 : List Int) (r2 : Int) (w : World) (hr0 : Kd.C (Kd.int .u32) w A0 l0.length l0) (hc0 : l0.length ≤ c0) (h : n_small.f l0 a1 = some (r1, r2)) :
    Calls Tryd.prog 58 #[.slice A0 l0.length c0, .int .u32 a1] w fun e w' => ∃ v0_ : Value, e = .returned (.tuple #[v0_, .int .u32 r2]) ∧ Kd.V (Kd.int .u32) 58 w' w.heap.size (fun k_ => (w.heap.size ≤ k_)) v0_ r1 ∧ Below w.heap.size w w' := by
  have HR0 := zMk hr0
  have HC0 := zMk hc0
  have HH := zMk h
  clear hr0 hc0 h
  have hm0 := HR0.out.2.1
  have hlim : l0.length ≤ 35184372088832 := by
    have h2 := HH.out
    unfold n_small.f at h2
    split at h2
    · assumption
    · cases h2
  have ha1 : IntKind.u64.wrap a1 ≠ 0 := by
    have h2 := HH.out
    unfold n_small.f at h2
    rw [if_pos hlim] at h2
    intro h3
    rw [if_pos h3] at h2
    cases h2
  obtain ⟨B, hBe⟩ : ∃ B, IntKind.u64.wrap a1 = B := ⟨_, rfl⟩
  have hBr : 1 ≤ B ∧ B ≤ 18446744073709551615 := by
    rw [← hBe]
    rw [IntKind.wrap_u64] at ha1 ⊢
    omega
  have HBE := zMk hBe
  clear ha1 hBe
  have hlim0 : decide (0 ≤ (l0.length : Int)) = true := decide_eq_true (by omega)
  refine (callsIn_wide (n := 3)).1 ?_
  refine callsIn_of_wp_marks Tryd.func58 rfl trivial ?_ rfl
  refine wpIn_wide.2 ?_
  simp only [Tryd.ntmps58, List.size_toArray, zLc, zLn, Nat.reduceAdd, Nat.reduceSub, Array.replicate_succ, Array.replicate_zero, List.push_toArray, List.append_toArray, List.nil_append, List.cons_append]
  have hmk := print_make (P := Tryd.prog) 22 58 .u32 4 Tryd.underlying22 info58 (by omega) l0.length (by omega)
  go_wp2_with (go_at_call 71; refine (slices_Backward_uint32_uint32.calls _ _ _ _).mono ?_; rintro e w' ⟨rfl, rfl⟩)
  have hB0 : Below w.heap.size w (((((w.alloc (.cells #[.int .u32 a1] 58)).alloc (.cells (madeCells #[.int .u32 0] l0.length) 58)).alloc (.cells #[.slice (some ⟨w.heap.size + 1, 0, none⟩) l0.length l0.length] 22)).alloc (.cells #[.int .u64 0] 47)).alloc (.cells #[.slice A0 l0.length c0] 22)) :=
    (((((Below.refl _ w).alloc (Nat.le_refl _) _).alloc (by simp) _).alloc (by simp <;> omega) _).alloc (by simp <;> omega) _).alloc (by simp <;> omega) _
  have hz0 : (((((w.alloc (.cells #[.int .u32 a1] 58)).alloc (.cells (madeCells #[.int .u32 0] l0.length) 58)).alloc (.cells #[.slice (some ⟨w.heap.size + 1, 0, none⟩) l0.length l0.length] 22)).alloc (.cells #[.int .u64 0] 47)).alloc (.cells #[.slice A0 l0.length c0] 22)).heap.size = w.heap.size + 5 := by simp
  have b0 : (((((w.alloc (.cells #[.int .u32 a1] 58)).alloc (.cells (madeCells #[.int .u32 0] l0.length) 58)).alloc (.cells #[.slice (some ⟨w.heap.size + 1, 0, none⟩) l0.length l0.length] 22)).alloc (.cells #[.int .u64 0] 47)).alloc (.cells #[.slice A0 l0.length c0] 22)).heap[w.heap.size]? = some (.cells #[.int .u32 a1] 58 (0, 0)) := by
    rw [Below.heap_alloc _ _ _ (by simp <;> omega), Below.heap_alloc _ _ _ (by simp <;> omega), Below.heap_alloc _ _ _ (by simp <;> omega), Below.heap_alloc _ _ _ (by simp)]; exact World.alloc_heap_new _ _
  have b1 : (((((w.alloc (.cells #[.int .u32 a1] 58)).alloc (.cells (madeCells #[.int .u32 0] l0.length) 58)).alloc (.cells #[.slice (some ⟨w.heap.size + 1, 0, none⟩) l0.length l0.length] 22)).alloc (.cells #[.int .u64 0] 47)).alloc (.cells #[.slice A0 l0.length c0] 22)).heap[w.heap.size + 1]? = some (.cells ((List.replicate l0.length (0 : Int)).map (Value.int .u32)).toArray 58 (0, 0)) := by
    rw [Below.heap_alloc _ _ _ (by simp <;> omega), Below.heap_alloc _ _ _ (by simp <;> omega), Below.heap_alloc _ _ _ (by simp)]
    have hl : ((List.replicate l0.length (0 : Int)).map (Value.int .u32)).toArray = madeCells #[Value.int .u32 0] l0.length := by
      apply Array.ext
      · simp [madeCells]
      · intro i h1 h2
        simp [madeCells, Nat.mod_one]
    have := World.alloc_heap_new (w.alloc (.cells #[.int .u32 a1] 58)) (.cells (madeCells #[.int .u32 0] l0.length) 58)
    rw [World.size_alloc] at this
    rw [hl]
    exact this
  have b2 : (((((w.alloc (.cells #[.int .u32 a1] 58)).alloc (.cells (madeCells #[.int .u32 0] l0.length) 58)).alloc (.cells #[.slice (some ⟨w.heap.size + 1, 0, none⟩) l0.length l0.length] 22)).alloc (.cells #[.int .u64 0] 47)).alloc (.cells #[.slice A0 l0.length c0] 22)).heap[w.heap.size + 1 + 1]? = some (.cells #[.slice (some ⟨w.heap.size + 1, 0, none⟩) l0.length l0.length] 22 (0, 0)) := by
    rw [Below.heap_alloc _ _ _ (by simp <;> omega), Below.heap_alloc _ _ _ (by simp)]
    have := World.alloc_heap_new ((w.alloc (.cells #[.int .u32 a1] 58)).alloc (.cells (madeCells #[.int .u32 0] l0.length) 58)) (.cells #[.slice (some ⟨w.heap.size + 1, 0, none⟩) l0.length l0.length] 22)
    rw [World.size_alloc, World.size_alloc] at this
    exact this
  have b3 : (((((w.alloc (.cells #[.int .u32 a1] 58)).alloc (.cells (madeCells #[.int .u32 0] l0.length) 58)).alloc (.cells #[.slice (some ⟨w.heap.size + 1, 0, none⟩) l0.length l0.length] 22)).alloc (.cells #[.int .u64 0] 47)).alloc (.cells #[.slice A0 l0.length c0] 22)).heap[w.heap.size + 1 + 1 + 1]? = some (.cells #[.int .u64 0] 47 (0, 0)) := by
    rw [Below.heap_alloc _ _ _ (by simp)]
    have := World.alloc_heap_new (((w.alloc (.cells #[.int .u32 a1] 58)).alloc (.cells (madeCells #[.int .u32 0] l0.length) 58)).alloc (.cells #[.slice (some ⟨w.heap.size + 1, 0, none⟩) l0.length l0.length] 22)) (.cells #[.int .u64 0] 47)
    rw [World.size_alloc, World.size_alloc, World.size_alloc] at this
    exact this
  have b4 : (((((w.alloc (.cells #[.int .u32 a1] 58)).alloc (.cells (madeCells #[.int .u32 0] l0.length) 58)).alloc (.cells #[.slice (some ⟨w.heap.size + 1, 0, none⟩) l0.length l0.length] 22)).alloc (.cells #[.int .u64 0] 47)).alloc (.cells #[.slice A0 l0.length c0] 22)).cell? ⟨w.heap.size + 1 + 1 + 1 + 1, 0, none⟩ = some (.slice A0 l0.length c0) := by
    have := Boxed.new ((((w.alloc (.cells #[.int .u32 a1] 58)).alloc (.cells (madeCells #[.int .u32 0] l0.length) 58)).alloc (.cells #[.slice (some ⟨w.heap.size + 1, 0, none⟩) l0.length l0.length] 22)).alloc (.cells #[.int .u64 0] 47)) 22 (.slice A0 l0.length c0)
    rw [World.size_alloc, World.size_alloc, World.size_alloc, World.size_alloc] at this
    exact this.cell
  clear hmk
  generalize (((((w.alloc (.cells #[.int .u32 a1] 58)).alloc (.cells (madeCells #[.int .u32 0] l0.length) 58)).alloc (.cells #[.slice (some ⟨w.heap.size + 1, 0, none⟩) l0.length l0.length] 22)).alloc (.cells #[.int .u64 0] 47)).alloc (.cells #[.slice A0 l0.length c0] 22)) = W3 at hB0 hz0 b0 b1 b2 b3 b4 ⊢
  have hF0 : Kd.F (Kd.int .u32) W3 (fun k => k < w.heap.size ∨ k = w.heap.size + 1 + 1 + 1 + 1) A0 l0.length l0 := Kd.F_mono (Kd.F_step (Kd.C_F (Kd.heap_int .u32) HR0.out) (fun k hk _ => hB0.block k hk)) (fun k hk => .inl hk)
  refine (wpIn_wide (n := 3)).1 ?_
  refine wpIn_rangeFunc_ownG (n := 3) rfl (by omega) (gf := 82) (lb := #[.pointer (some ⟨w.heap.size + 1 + 1 + 1 + 1, 0, none⟩)]) rfl trivial (enters_of Tryd.func82 (by kernel_rfl) rfl)
      (slices_Backward_uint32_uint32.stops Fence.wide 2 trivial rfl (by omega) (w.heap.size + 1 + 1 + 1 + 1) c0 A0 l0 HC0.out (fun k => k < w.heap.size ∨ k = w.heap.size + 1 + 1 + 1 + 1) (.inr rfl) _ (fun k hk => by rw [hz0]; omega) b4 hF0)
      KeepOk.trans (KeepOk.turn (fun k hk => by rw [hz0]; omega)) (Below.refl _ _) (fun _ => rfl)
      (fun pre W => (W.heap[w.heap.size]? = some (.cells #[.int .u32 a1] 58 (0, 0)) ∧ W.heap[w.heap.size + 1]? = some (.cells ((smallOf l0 B pre).1.map (Value.int .u32)).toArray 58 (0, 0)) ∧ W.heap[w.heap.size + 1 + 1]? = some (.cells #[.slice (some ⟨w.heap.size + 1, 0, none⟩) l0.length l0.length] 22 (0, 0)) ∧ W.heap[w.heap.size + 1 + 1 + 1]? = some (.cells #[.int .u64 (smallOf l0 B pre).2] 47 (0, 0))) ∧ Below w.heap.size w W)
      (fun _ _ _ => False)
      (OwnFrom.and (Own.from (fun s A B row hs hg hr => ⟨keepCells hs.1 hg hr, keepCells hs.2.1 hg hr, keepCells hs.2.2.1 hg hr, keepCells hs.2.2.2 hg hr⟩) _) (ownFrom_below (Nat.le_refl _) (by rw [hz0]; omega)))
      (fun _ _ _ _ _ hs _ _ => hs)
      ⟨⟨b0, b1, b2, b3⟩, hB0⟩
      (fun x => { tmps := #[.slice A0 l0.length c0, .int .u32 a1, undef, .pointer (some ⟨w.heap.size, 0, none⟩), .slice none 0 0, .int .u32 0, .pointer (some ⟨w.heap.size + 1 + 1, 0, none⟩), .pointer (some ⟨w.heap.size + 1 + 1 + 1, 0, none⟩), .int .i64 (x.1 : Int), .int .u32 (rd l0 (x.1 : Int)), undef, .slice A0 l0.length c0, .int .i64 l0.length, .slice (some ⟨w.heap.size + 1, 0, none⟩) l0.length l0.length, .slice A0 l0.length c0, .func (.func 82) #[] #[.pointer (some ⟨w.heap.size + 1 + 1 + 1 + 1, 0, none⟩)], .int .i64 (x.1 : Int), .int .u32 (rd l0 (x.1 : Int)), undef, undef, undef, undef, undef, undef, undef, undef, undef, undef, undef, undef, undef, undef, undef, undef, undef, undef, undef, undef, undef], defers := [] }) ?assign ?body ?done ?stop
  case assign =>
    intro l x W K hK
    gi_wp2
    exact hK
  case body =>
    rintro l pre ⟨x, hx⟩ W ⟨⟨h0, h1, h2, h3⟩, hB⟩ hlen
    have c0_ : W.cell? ⟨w.heap.size, 0, none⟩ = some (.int .u32 a1) := Boxed.cell h0
    have c2_ : W.cell? ⟨w.heap.size + 1 + 1, 0, none⟩ = some (.slice (some ⟨w.heap.size + 1, 0, none⟩) l0.length l0.length) := Boxed.cell h2
    have c3_ : W.cell? ⟨w.heap.size + 1 + 1 + 1, 0, none⟩ = some (.int .u64 (smallOf l0 B pre).2) := Boxed.cell h3
    have f3_ : W.frozen? ⟨w.heap.size + 1 + 1 + 1, 0, none⟩ = false := Boxed.frozen h3
    have hc1 : W.cell? ⟨w.heap.size + 1, x, none⟩ = some (.int .u32 ((smallOf l0 B pre).1.getD x 0)) := by
      have := smallOf_length l0 B pre
      simp [World.cell?, h1, List.getElem?_eq_getElem (show x < (smallOf l0 B pre).1.length by omega), List.getD_eq_getElem?_getD]
    have hf1 : W.frozen? ⟨w.heap.size + 1, x, none⟩ = false := by simp [World.frozen?, h1]
    have hx4 : decide ((x : Int) < (l0.length : Int)) = true := decide_eq_true (by omega)
    have hBz : (B == 0) = false := beq_eq_false_iff_ne.mpr (by omega)
    have hBn : ¬ (B = 0) := by omega
    have hBe := HBE.out
    obtain ⟨N, hN⟩ : ∃ N, smallN (smallOf l0 B pre).2 (rd l0 (x : Int)) = N := ⟨_, rfl⟩
    have hNr := smallN_range (smallOf l0 B pre).2 (rd l0 (x : Int))
    rw [hN] at hNr
    obtain ⟨hN0, hN1⟩ := hNr
    obtain ⟨hB1, hB2⟩ := hBr
    have HN := zMk hN
    have hNb : bits .or .u64 (IntKind.u64.wrap ((smallOf l0 B pre).2 * 4294967296)) (IntKind.u64.wrap (rd l0 (x : Int))) = N := hN
    clear hN
    gi_wp2
    refine region_round (fun a' w' => a' = ({ tmps := #[.slice A0 l0.length c0, .int .u32 a1, undef, .pointer (some ⟨w.heap.size, 0, none⟩), .slice none 0 0, .int .u32 0, .pointer (some ⟨w.heap.size + 1 + 1, 0, none⟩), .pointer (some ⟨w.heap.size + 1 + 1 + 1, 0, none⟩), .int .i64 (x : Int), .int .u32 (rd l0 (x : Int)), .int .u64 N, .slice A0 l0.length c0, .int .i64 l0.length, .slice (some ⟨w.heap.size + 1, 0, none⟩) l0.length l0.length, .slice A0 l0.length c0, .func (.func 82) #[] #[.pointer (some ⟨w.heap.size + 1 + 1 + 1 + 1, 0, none⟩)], .int .i64 (x : Int), .int .u32 (rd l0 (x : Int)), .int .u64 (smallOf l0 B pre).2, .int .u64 (IntKind.u64.wrap ((smallOf l0 B pre).2 * 4294967296)), .int .u32 (rd l0 (x : Int)), .int .u64 (IntKind.u64.wrap (rd l0 (x : Int))), .int .u64 N, .slice (some ⟨w.heap.size + 1, 0, none⟩) l0.length l0.length, .int .i64 (x : Int), .int .u64 N, .int .u32 a1, .int .u64 B, .int .u64 (N / B), .int .u32 (N / B % 4294967296), .int .u64 N, .int .u32 a1, .int .u64 B, .int .u64 (N % B), .pointer (some ⟨w.heap.size + 1, x, none⟩), undef, undef, undef, undef], defers := [] } : Act) ∧ w' = ((W.setCell ⟨w.heap.size + 1, x, none⟩ (.int .u32 (N / B % 4294967296))).setCell ⟨w.heap.size + 1 + 1 + 1, 0, none⟩ (.int .u64 (N % B))).drew) (by kernel_rfl) (by kernel_rfl) ?reg ?cont
    case reg =>
      have hq0 : 0 ≤ N / B := Int.ediv_nonneg hN0 (by omega)
      have hq1 : N / B ≤ 18446744073709551615 := Int.le_trans (Int.ediv_le_self _ hN0) hN1
      have hs1 : IntKind.u64.wrap (N.tdiv B) = N / B := by rw [Int.tdiv_eq_ediv_of_nonneg hN0, IntKind.wrap_u64]; omega
      have hs2 : N.tmod B = N % B := Int.tmod_eq_emod_of_nonneg hN0
      have hs3 : IntKind.u32.wrap (N / B) = N / B % 4294967296 := IntKind.wrap_u32 _
      generalize smallOf l0 B pre = sst at *
      generalize w.heap.size = hs at *
      clear HR0 HC0 HH hlim0 HBE hB0 hz0 b0 b1 b2 b3 b4 hF0 h0 h1 h2 h3 hB hlen HN hNb
      simp only [List.size_toArray, zLc, zLn, Nat.reduceAdd, Array.replicate_succ, Array.replicate_zero, List.push_toArray, List.nil_append, List.cons_append]
      refine wpAny_take (i := 1) (v := .int .i64 (x : Int)) rfl (by kernel_rfl) (by kernel_rfl) (by kernel_rfl) (fun _ _ _ h => by cases h.1) (Or.inl ⟨by rfl, fun w => by go_simp⟩) ?_
      refine wpAny_take (i := 2) (v := .int .u64 N) rfl (by kernel_rfl) (by kernel_rfl) (by kernel_rfl) (fun _ _ _ h => by cases h.1) (Or.inl ⟨by rfl, fun w => by go_simp⟩) ?_
      refine wpAny_take (i := 7) (v := .int .u64 N) rfl (by kernel_rfl) (by kernel_rfl) (by kernel_rfl) (fun _ _ _ h => by cases h.1) (Or.inl ⟨by rfl, fun w => by go_simp⟩) ?_
      refine wpAny_ready (rs := [0, 3, 8]) (by kernel_rfl) (by simp) ?_
      refine AllReady.cons rfl (fun K hK => ?_) ?_
      · go_simp
        refine hK _ _ ?_
        clear hK K
        refine wpAny_ready (rs := [3, 8]) (by kernel_rfl) (by simp) ?_
        refine AllReady.cons rfl (fun K hK => ?_) ?_
        · go_simp
          refine hK _ _ ?_
          clear hK K
          refine wpAny_take (i := 4) (v := .int .u64 B) rfl (by kernel_rfl) (by kernel_rfl) (by kernel_rfl) (fun _ _ _ h => by cases h.1) (Or.inl ⟨by rfl, fun w => by go_simp⟩) ?_
          refine wpAny_take (i := 5) (v := .int .u64 (N / B)) rfl (by kernel_rfl) (by kernel_rfl) (by kernel_rfl) (fun _ _ _ h => by cases h.1) (Or.inl ⟨by rfl, fun w => by go_simp⟩) ?_
          refine wpAny_take (i := 6) (v := .int .u32 (N / B % 4294967296)) rfl (by kernel_rfl) (by kernel_rfl) (by kernel_rfl) (fun _ _ _ h => by cases h.1) (Or.inl ⟨by rfl, fun w => by go_simp⟩) ?_
          refine wpAny_take (i := 11) (v := .pointer (some ⟨hs + 1, x, none⟩)) rfl (by kernel_rfl) (by kernel_rfl) (by kernel_rfl) (fun _ _ _ h => by cases h.1) (Or.inl ⟨by rfl, fun w => by go_simp⟩) ?_
          refine wpAny_ready (rs := [8, 12]) (by kernel_rfl) (by simp) ?_
          refine AllReady.cons rfl (fun K hK => ?_) ?_
          · go_simp
            refine hK _ _ ?_
            clear hK K
            refine wpAny_take (i := 9) (v := .int .u64 B) rfl (by kernel_rfl) (by kernel_rfl) (by kernel_rfl) (fun _ _ _ h => by cases h.1) (Or.inl ⟨by rfl, fun w => by go_simp⟩) ?_
            refine wpAny_take (i := 10) (v := .int .u64 (N % B)) rfl (by kernel_rfl) (by kernel_rfl) (by kernel_rfl) (fun _ _ _ h => by cases h.1) (Or.inl ⟨by rfl, fun w => by go_simp⟩) ?_
            refine wpAny_ready (rs := [12]) (by kernel_rfl) (by simp) ?_
            refine AllReady.cons rfl (fun K hK => ?_) ?_
            · go_simp
              refine hK _ _ ?_
              clear hK K
              refine wpAny_ready (rs := [13]) (by kernel_rfl) (by simp) ?_
              refine AllReady.cons rfl (fun K hK => ?_) ?_
              · go_simp
                refine hK _ _ ?_
                clear hK K
                refine wpAny_done (by kernel_rfl) ?_ _
                exact ⟨rfl, rfl, rfl⟩
              exact AllReady.nil
            exact AllReady.nil
          refine AllReady.cons rfl (fun K hK => ?_) ?_
          · go_simp
            refine hK _ _ ?_
            clear hK K
            refine wpAny_ready (rs := [8]) (by kernel_rfl) (by simp) ?_
            refine AllReady.cons rfl (fun K hK => ?_) ?_
            · go_simp
              refine hK _ _ ?_
              clear hK K
              refine wpAny_take (i := 9) (v := .int .u64 B) rfl (by kernel_rfl) (by kernel_rfl) (by kernel_rfl) (fun _ _ _ h => by cases h.1) (Or.inl ⟨by rfl, fun w => by go_simp⟩) ?_
              refine wpAny_take (i := 10) (v := .int .u64 (N % B)) rfl (by kernel_rfl) (by kernel_rfl) (by kernel_rfl) (fun _ _ _ h => by cases h.1) (Or.inl ⟨by rfl, fun w => by go_simp⟩) ?_
              refine wpAny_ready (rs := [13]) (by kernel_rfl) (by simp) ?_
              refine AllReady.cons rfl (fun K hK => ?_) ?_
              · go_simp
                refine hK _ _ ?_
                clear hK K
                refine wpAny_done (by kernel_rfl) ?_ _
                exact ⟨rfl, rfl, rfl⟩
              exact AllReady.nil
            exact AllReady.nil
          exact AllReady.nil
        refine AllReady.cons rfl (fun K hK => ?_) ?_
        · go_simp
          refine hK _ _ ?_
          clear hK K
          refine wpAny_take (i := 9) (v := .int .u64 B) rfl (by kernel_rfl) (by kernel_rfl) (by kernel_rfl) (fun _ _ _ h => by cases h.1) (Or.inl ⟨by rfl, fun w => by go_simp⟩) ?_
          refine wpAny_take (i := 10) (v := .int .u64 (N % B)) rfl (by kernel_rfl) (by kernel_rfl) (by kernel_rfl) (fun _ _ _ h => by cases h.1) (Or.inl ⟨by rfl, fun w => by go_simp⟩) ?_
          refine wpAny_ready (rs := [3]) (by kernel_rfl) (by simp) ?_
          refine AllReady.cons rfl (fun K hK => ?_) ?_
          · go_simp
            refine hK _ _ ?_
            clear hK K
            refine wpAny_take (i := 4) (v := .int .u64 B) rfl (by kernel_rfl) (by kernel_rfl) (by kernel_rfl) (fun _ _ _ h => by cases h.1) (Or.inl ⟨by rfl, fun w => by go_simp⟩) ?_
            refine wpAny_take (i := 5) (v := .int .u64 (N / B)) rfl (by kernel_rfl) (by kernel_rfl) (by kernel_rfl) (fun _ _ _ h => by cases h.1) (Or.inl ⟨by rfl, fun w => by go_simp⟩) ?_
            refine wpAny_take (i := 6) (v := .int .u32 (N / B % 4294967296)) rfl (by kernel_rfl) (by kernel_rfl) (by kernel_rfl) (fun _ _ _ h => by cases h.1) (Or.inl ⟨by rfl, fun w => by go_simp⟩) ?_
            refine wpAny_take (i := 11) (v := .pointer (some ⟨hs + 1, x, none⟩)) rfl (by kernel_rfl) (by kernel_rfl) (by kernel_rfl) (fun _ _ _ h => by cases h.1) (Or.inl ⟨by rfl, fun w => by go_simp⟩) ?_
            refine wpAny_ready (rs := [12]) (by kernel_rfl) (by simp) ?_
            refine AllReady.cons rfl (fun K hK => ?_) ?_
            · go_simp
              refine hK _ _ ?_
              clear hK K
              refine wpAny_ready (rs := [13]) (by kernel_rfl) (by simp) ?_
              refine AllReady.cons rfl (fun K hK => ?_) ?_
              · go_simp
                refine hK _ _ ?_
                clear hK K
                refine wpAny_done (by kernel_rfl) ?_ _
                exact ⟨rfl, rfl, rfl⟩
              exact AllReady.nil
            exact AllReady.nil
          exact AllReady.nil
        exact AllReady.nil
      refine AllReady.cons rfl (fun K hK => ?_) ?_
      · go_simp
        refine hK _ _ ?_
        clear hK K
        refine wpAny_take (i := 4) (v := .int .u64 B) rfl (by kernel_rfl) (by kernel_rfl) (by kernel_rfl) (fun _ _ _ h => by cases h.1) (Or.inl ⟨by rfl, fun w => by go_simp⟩) ?_
        refine wpAny_take (i := 5) (v := .int .u64 (N / B)) rfl (by kernel_rfl) (by kernel_rfl) (by kernel_rfl) (fun _ _ _ h => by cases h.1) (Or.inl ⟨by rfl, fun w => by go_simp⟩) ?_
        refine wpAny_take (i := 6) (v := .int .u32 (N / B % 4294967296)) rfl (by kernel_rfl) (by kernel_rfl) (by kernel_rfl) (fun _ _ _ h => by cases h.1) (Or.inl ⟨by rfl, fun w => by go_simp⟩) ?_
        refine wpAny_ready (rs := [0, 8]) (by kernel_rfl) (by simp) ?_
        refine AllReady.cons rfl (fun K hK => ?_) ?_
        · go_simp
          refine hK _ _ ?_
          clear hK K
          refine wpAny_take (i := 11) (v := .pointer (some ⟨hs + 1, x, none⟩)) rfl (by kernel_rfl) (by kernel_rfl) (by kernel_rfl) (fun _ _ _ h => by cases h.1) (Or.inl ⟨by rfl, fun w => by go_simp⟩) ?_
          refine wpAny_ready (rs := [8, 12]) (by kernel_rfl) (by simp) ?_
          refine AllReady.cons rfl (fun K hK => ?_) ?_
          · go_simp
            refine hK _ _ ?_
            clear hK K
            refine wpAny_take (i := 9) (v := .int .u64 B) rfl (by kernel_rfl) (by kernel_rfl) (by kernel_rfl) (fun _ _ _ h => by cases h.1) (Or.inl ⟨by rfl, fun w => by go_simp⟩) ?_
            refine wpAny_take (i := 10) (v := .int .u64 (N % B)) rfl (by kernel_rfl) (by kernel_rfl) (by kernel_rfl) (fun _ _ _ h => by cases h.1) (Or.inl ⟨by rfl, fun w => by go_simp⟩) ?_
            refine wpAny_ready (rs := [12]) (by kernel_rfl) (by simp) ?_
            refine AllReady.cons rfl (fun K hK => ?_) ?_
            · go_simp
              refine hK _ _ ?_
              clear hK K
              refine wpAny_ready (rs := [13]) (by kernel_rfl) (by simp) ?_
              refine AllReady.cons rfl (fun K hK => ?_) ?_
              · go_simp
                refine hK _ _ ?_
                clear hK K
                refine wpAny_done (by kernel_rfl) ?_ _
                exact ⟨rfl, rfl, rfl⟩
              exact AllReady.nil
            exact AllReady.nil
          refine AllReady.cons rfl (fun K hK => ?_) ?_
          · go_simp
            refine hK _ _ ?_
            clear hK K
            refine wpAny_ready (rs := [8]) (by kernel_rfl) (by simp) ?_
            refine AllReady.cons rfl (fun K hK => ?_) ?_
            · go_simp
              refine hK _ _ ?_
              clear hK K
              refine wpAny_take (i := 9) (v := .int .u64 B) rfl (by kernel_rfl) (by kernel_rfl) (by kernel_rfl) (fun _ _ _ h => by cases h.1) (Or.inl ⟨by rfl, fun w => by go_simp⟩) ?_
              refine wpAny_take (i := 10) (v := .int .u64 (N % B)) rfl (by kernel_rfl) (by kernel_rfl) (by kernel_rfl) (fun _ _ _ h => by cases h.1) (Or.inl ⟨by rfl, fun w => by go_simp⟩) ?_
              refine wpAny_ready (rs := [13]) (by kernel_rfl) (by simp) ?_
              refine AllReady.cons rfl (fun K hK => ?_) ?_
              · go_simp
                refine hK _ _ ?_
                clear hK K
                refine wpAny_done (by kernel_rfl) ?_ _
                exact ⟨rfl, rfl, rfl⟩
              exact AllReady.nil
            exact AllReady.nil
          exact AllReady.nil
        refine AllReady.cons rfl (fun K hK => ?_) ?_
        · go_simp
          refine hK _ _ ?_
          clear hK K
          refine wpAny_take (i := 9) (v := .int .u64 B) rfl (by kernel_rfl) (by kernel_rfl) (by kernel_rfl) (fun _ _ _ h => by cases h.1) (Or.inl ⟨by rfl, fun w => by go_simp⟩) ?_
          refine wpAny_take (i := 10) (v := .int .u64 (N % B)) rfl (by kernel_rfl) (by kernel_rfl) (by kernel_rfl) (fun _ _ _ h => by cases h.1) (Or.inl ⟨by rfl, fun w => by go_simp⟩) ?_
          refine wpAny_ready (rs := [0]) (by kernel_rfl) (by simp) ?_
          refine AllReady.cons rfl (fun K hK => ?_) ?_
          · go_simp
            refine hK _ _ ?_
            clear hK K
            refine wpAny_take (i := 11) (v := .pointer (some ⟨hs + 1, x, none⟩)) rfl (by kernel_rfl) (by kernel_rfl) (by kernel_rfl) (fun _ _ _ h => by cases h.1) (Or.inl ⟨by rfl, fun w => by go_simp⟩) ?_
            refine wpAny_ready (rs := [12]) (by kernel_rfl) (by simp) ?_
            refine AllReady.cons rfl (fun K hK => ?_) ?_
            · go_simp
              refine hK _ _ ?_
              clear hK K
              refine wpAny_ready (rs := [13]) (by kernel_rfl) (by simp) ?_
              refine AllReady.cons rfl (fun K hK => ?_) ?_
              · go_simp
                refine hK _ _ ?_
                clear hK K
                refine wpAny_done (by kernel_rfl) ?_ _
                exact ⟨rfl, rfl, rfl⟩
              exact AllReady.nil
            exact AllReady.nil
          exact AllReady.nil
        exact AllReady.nil
      refine AllReady.cons rfl (fun K hK => ?_) ?_
      · go_simp
        refine hK _ _ ?_
        clear hK K
        refine wpAny_take (i := 9) (v := .int .u64 B) rfl (by kernel_rfl) (by kernel_rfl) (by kernel_rfl) (fun _ _ _ h => by cases h.1) (Or.inl ⟨by rfl, fun w => by go_simp⟩) ?_
        refine wpAny_take (i := 10) (v := .int .u64 (N % B)) rfl (by kernel_rfl) (by kernel_rfl) (by kernel_rfl) (fun _ _ _ h => by cases h.1) (Or.inl ⟨by rfl, fun w => by go_simp⟩) ?_
        refine wpAny_ready (rs := [0, 3]) (by kernel_rfl) (by simp) ?_
        refine AllReady.cons rfl (fun K hK => ?_) ?_
        · go_simp
          refine hK _ _ ?_
          clear hK K
          refine wpAny_ready (rs := [3]) (by kernel_rfl) (by simp) ?_
          refine AllReady.cons rfl (fun K hK => ?_) ?_
          · go_simp
            refine hK _ _ ?_
            clear hK K
            refine wpAny_take (i := 4) (v := .int .u64 B) rfl (by kernel_rfl) (by kernel_rfl) (by kernel_rfl) (fun _ _ _ h => by cases h.1) (Or.inl ⟨by rfl, fun w => by go_simp⟩) ?_
            refine wpAny_take (i := 5) (v := .int .u64 (N / B)) rfl (by kernel_rfl) (by kernel_rfl) (by kernel_rfl) (fun _ _ _ h => by cases h.1) (Or.inl ⟨by rfl, fun w => by go_simp⟩) ?_
            refine wpAny_take (i := 6) (v := .int .u32 (N / B % 4294967296)) rfl (by kernel_rfl) (by kernel_rfl) (by kernel_rfl) (fun _ _ _ h => by cases h.1) (Or.inl ⟨by rfl, fun w => by go_simp⟩) ?_
            refine wpAny_take (i := 11) (v := .pointer (some ⟨hs + 1, x, none⟩)) rfl (by kernel_rfl) (by kernel_rfl) (by kernel_rfl) (fun _ _ _ h => by cases h.1) (Or.inl ⟨by rfl, fun w => by go_simp⟩) ?_
            refine wpAny_ready (rs := [12]) (by kernel_rfl) (by simp) ?_
            refine AllReady.cons rfl (fun K hK => ?_) ?_
            · go_simp
              refine hK _ _ ?_
              clear hK K
              refine wpAny_ready (rs := [13]) (by kernel_rfl) (by simp) ?_
              refine AllReady.cons rfl (fun K hK => ?_) ?_
              · go_simp
                refine hK _ _ ?_
                clear hK K
                refine wpAny_done (by kernel_rfl) ?_ _
                exact ⟨rfl, rfl, rfl⟩
              exact AllReady.nil
            exact AllReady.nil
          exact AllReady.nil
        refine AllReady.cons rfl (fun K hK => ?_) ?_
        · go_simp
          refine hK _ _ ?_
          clear hK K
          refine wpAny_take (i := 4) (v := .int .u64 B) rfl (by kernel_rfl) (by kernel_rfl) (by kernel_rfl) (fun _ _ _ h => by cases h.1) (Or.inl ⟨by rfl, fun w => by go_simp⟩) ?_
          refine wpAny_take (i := 5) (v := .int .u64 (N / B)) rfl (by kernel_rfl) (by kernel_rfl) (by kernel_rfl) (fun _ _ _ h => by cases h.1) (Or.inl ⟨by rfl, fun w => by go_simp⟩) ?_
          refine wpAny_take (i := 6) (v := .int .u32 (N / B % 4294967296)) rfl (by kernel_rfl) (by kernel_rfl) (by kernel_rfl) (fun _ _ _ h => by cases h.1) (Or.inl ⟨by rfl, fun w => by go_simp⟩) ?_
          refine wpAny_ready (rs := [0]) (by kernel_rfl) (by simp) ?_
          refine AllReady.cons rfl (fun K hK => ?_) ?_
          · go_simp
            refine hK _ _ ?_
            clear hK K
            refine wpAny_take (i := 11) (v := .pointer (some ⟨hs + 1, x, none⟩)) rfl (by kernel_rfl) (by kernel_rfl) (by kernel_rfl) (fun _ _ _ h => by cases h.1) (Or.inl ⟨by rfl, fun w => by go_simp⟩) ?_
            refine wpAny_ready (rs := [12]) (by kernel_rfl) (by simp) ?_
            refine AllReady.cons rfl (fun K hK => ?_) ?_
            · go_simp
              refine hK _ _ ?_
              clear hK K
              refine wpAny_ready (rs := [13]) (by kernel_rfl) (by simp) ?_
              refine AllReady.cons rfl (fun K hK => ?_) ?_
              · go_simp
                refine hK _ _ ?_
                clear hK K
                refine wpAny_done (by kernel_rfl) ?_ _
                exact ⟨rfl, rfl, rfl⟩
              exact AllReady.nil
            exact AllReady.nil
          exact AllReady.nil
        exact AllReady.nil
      exact AllReady.nil
    case cont =>
      rintro a' w' ⟨rfl, rfl⟩
      have hsm := smallOf_snoc l0 B pre ⟨x, hx⟩
      have hst : smallOf l0 B (pre ++ [⟨x, hx⟩]) = ((smallOf l0 B pre).1.set x (N / B % 4294967296), N % B) := by rw [hsm]; unfold smallStep; rw [HN.out]
      have hd1 : (((W.setCell ⟨w.heap.size + 1, x, none⟩ (.int .u32 (N / B % 4294967296))).setCell ⟨w.heap.size + 1 + 1 + 1, 0, none⟩ (.int .u64 (N % B))).drew).heap = ((W.setCell ⟨w.heap.size + 1, x, none⟩ (.int .u32 (N / B % 4294967296))).setCell ⟨w.heap.size + 1 + 1 + 1, 0, none⟩ (.int .u64 (N % B))).heap := rfl
      have hk1 : KeepOk (fun k => k < w.heap.size ∨ k = w.heap.size + 1 + 1 + 1 + 1) W (((W.setCell ⟨w.heap.size + 1, x, none⟩ (.int .u32 (N / B % 4294967296))).setCell ⟨w.heap.size + 1 + 1 + 1, 0, none⟩ (.int .u64 (N % B))).drew) := fun k hk => by
        rw [hd1, Below.heap_setCell _ _ _ _ (by show k ≠ w.heap.size + 1 + 1 + 1; omega), Below.heap_setCell _ _ _ _ (by show k ≠ w.heap.size + 1; omega)]
      refine ⟨((KeepsOthers.setCell _ _ _).trans ((KeepsOthers.setCell _ _ _).trans (KeepsOthers.drew _))).from _, hk1, ⟨?_, ?_, ?_, ?_⟩, ((hB.setCell (p := ⟨w.heap.size + 1, x, none⟩) (Nat.le_succ _) _).setCell (p := ⟨w.heap.size + 1 + 1 + 1, 0, none⟩) (by show w.heap.size ≤ w.heap.size + 1 + 1 + 1; omega) _).drew⟩
      · rw [hd1, Below.heap_setCell _ _ _ _ (by show w.heap.size ≠ w.heap.size + 1 + 1 + 1; omega), Below.heap_setCell _ _ _ _ (by show w.heap.size ≠ w.heap.size + 1; omega)]
        exact h0
      · rw [hd1, Below.heap_setCell _ _ _ _ (by show w.heap.size + 1 ≠ w.heap.size + 1 + 1 + 1; omega), heap_setCell_same _ _ _ _ _ _ h1, hst]
        simp [List.map_set]
      · rw [hd1, Below.heap_setCell _ _ _ _ (by show w.heap.size + 1 + 1 ≠ w.heap.size + 1 + 1 + 1; omega), Below.heap_setCell _ _ _ _ (by show w.heap.size + 1 + 1 ≠ w.heap.size + 1; omega)]
        exact h2
      · rw [hd1, heap_setCell_same _ _ _ _ _ _ ((Below.heap_setCell _ _ _ _ (by show w.heap.size + 1 + 1 + 1 ≠ w.heap.size + 1; omega)).trans h3), hst]
        rfl
  case done =>
    rintro D ys W hD rfl ⟨⟨h0, h1, h2, h3⟩, hB⟩ hK
    have c2_ : W.cell? ⟨w.heap.size + 1 + 1, 0, none⟩ = some (.slice (some ⟨w.heap.size + 1, 0, none⟩) l0.length l0.length) := Boxed.cell h2
    have c3_ : W.cell? ⟨w.heap.size + 1 + 1 + 1, 0, none⟩ = some (.int .u64 (smallOf l0 B (bwd l0.length l0.length (Nat.le_refl _))).2) := Boxed.cell h3
    rw [smallOf_bwd] at h1 c3_
    obtain ⟨st, hst⟩ : ∃ st, smallIt l0 B l0.length = st := ⟨_, rfl⟩
    have hsl := smallIt_length l0 B l0.length
    rw [hst] at h1 c3_ hsl
    have HST := zMk hst
    clear hst
    have hC : Kd.C (Kd.int .u32) W (some ⟨w.heap.size + 1, 0, none⟩) st.1.length st.1 := C_of_block h1 (by omega)
    have hcut := n_cut.exact (some ⟨w.heap.size + 1, 0, none⟩) l0.length st.1 W.drew (zCd hC) (by omega)
    rw [hsl] at hcut
    have HCUT := zMk (hcut.mono (fun e w' ⟨he, hw⟩ => (⟨he, hw.symm⟩ : e = Ending.returned (.slice (some ⟨w.heap.size + 1, 0, none⟩) (cutLen st.1 l0.length) l0.length) ∧ w' = W.drew)))
    clear hcut
    go_wp2
    refine wp_region_still_lit (by kernel_rfl) (by kernel_rfl) ?_
    show wpStill _ _ W.drew _ _ _
    repeat still_step
    still_call HCUT.out
    repeat still_step
    refine wpStill_nil ?_
    go_wp2
    have hK' : W.drew.heap[D]? = some (.deferred (some [])) := hK
    refine ⟨by simp, .inl ⟨_, _, rfl, run_takeDeferred hK', ?_⟩⟩
    have hBe : Below w.heap.size w (W.drew.putObj D (.deferred none)) := (below_drew hB).trans (belowK_b (w := w) (Nat.le_refl _) W.drew D _ _ (by rw [hz0] at hD; omega) hK' rfl rfl)
    have h1e : (W.drew.putObj D (.deferred none)).heap[w.heap.size + 1]? = some (.cells (st.1.map (Value.int .u32)).toArray 58 (0, 0)) := keepCells (B := W.drew.putObj D (.deferred none)) (A := W.drew) h1 (grownBy_putObj' _ D (.deferred none)) (fun r e => by cases e; exact ⟨_, hK', rfl⟩)
    have h2 := HH.out
    unfold n_small.f at h2
    rw [if_pos hlim, HBE.out, if_neg (by omega), HST.out] at h2
    simp only [Option.some.injEq, Prod.mk.injEq] at h2
    obtain ⟨rfl, rfl⟩ := h2
    have hle := cutLen_le st.1 l0.length
    have hlen : (st.1.take (cutLen st.1 l0.length)).length = cutLen st.1 l0.length := by rw [zLt]; omega
    refine ⟨.tuple #[.slice (some ⟨w.heap.size + 1, 0, none⟩) (cutLen st.1 l0.length) l0.length, .int .u32 (st.2 % 4294967296)], ?_, ?_⟩
    · simp [results, Tryd.f58, go_sem]
      try rw [IntKind.wrap_u32]
    · refine ⟨_, rfl, ?_, hBe⟩
      have hF : Kd.F (Kd.int .u32) (W.drew.putObj D (.deferred none)) (fun k => w.heap.size ≤ k) (some ⟨w.heap.size + 1, 0, none⟩) st.1.length st.1 := fun W' hW => C_of_block ((hW _ (Nat.le_succ _) (Array.getElem?_eq_some_iff.1 h1e).1).trans h1e) (by omega)
      have hF2 := Kd.F_take (m := cutLen st.1 l0.length) hF (by omega)
      have h3 := Kd.V_mk (e := 58) (base := w.heap.size) (c := l0.length) (by rw [hlen]; exact hle) hF2
      rw [hlen] at h3
      exact h3
  case stop =>
    rintro D c pre W hD _ h
    exact h.elim
end


def n_DivMod.f (k : Nat) (l0 : List Int) (l1 : List Int) : Option (List Int × List Int × Int) := (n_cut.f l0).bind fun t151 => ((n_cut.f l1).bind fun t154 => (if (t154.length : Int) = 0 then (some (([] : List Int), ([] : List Int), 15)) else ((n_Cmp.f t151 t154).bind fun t157 => (if t157 < 0 then ((n_Norm.f t151).bind fun t158 => (some (([] : List Int), t158, 0))) else (if (t154.length : Int) = 1 then (if 0 < (t154.length : Int) then ((n_small.f t151 (rd t154 0)).bind fun bt162 => ((n_Of.f (IntKind.u64.wrap (bt162.2))).bind fun t166 => (some (bt162.1, t166, 0)))) else (none)) else (none))))))
set_option maxHeartbeats 8000000 in
set_option maxRecDepth 100000 in
theorem n_DivMod.calls (k : Nat) (P0_ : Nat → Prop) (A0 : Option Addr) (c0 : Nat) (l0 : List Int) (P1_ : Nat → Prop) (A1 : Option Addr) (c1 : Nat) (l1 : List Int) (r1 : List Int) (r2 : List Int) (r3 : Int) (w : World) (hs0 : Kd.V (Kd.int .u32) 58 w w.heap.size (fun k_ => P0_ k_) (.slice A0 l0.length c0) l0) (hs1 : Kd.V (Kd.int .u32) 58 w w.heap.size (fun k_ => P1_ k_) (.slice A1 l1.length c1) l1) (h : n_DivMod.f k l0 l1 = some (r1, r2, r3)) :
    Calls Tryd.prog 32 #[.slice A0 l0.length c0, .slice A1 l1.length c1] w fun e w' => ∃ v0_ v1_ : Value, e = .returned (.tuple #[v0_, v1_, .int .i64 r3]) ∧ Kd.V (Kd.int .u32) 58 w' w.heap.size (fun k_ => ((P0_ k_ ∨ P1_ k_) ∨ w.heap.size ≤ k_)) v0_ r1 ∧ Kd.V (Kd.int .u32) 58 w' w.heap.size (fun k_ => ((P0_ k_ ∨ P1_ k_) ∨ w.heap.size ≤ k_)) v1_ r2 ∧ Below w.heap.size w w' := by
  have HO0 := zMk (show Kd.V (Kd.int .u32) 58 w w.heap.size (fun k_ => ((P0_ k_ ∨ P1_ k_) ∨ w.heap.size ≤ k_)) (.slice A0 l0.length c0) l0 from zVm hs0 (fun k_ hk => .inl (.inl hk)))
  have HO1 := zMk (show Kd.V (Kd.int .u32) 58 w w.heap.size (fun k_ => ((P0_ k_ ∨ P1_ k_) ∨ w.heap.size ≤ k_)) (.slice A1 l1.length c1) l1 from zVm hs1 (fun k_ hk => .inl (.inr hk)))
  have HB := zMk (Below.refl w.heap.size w)
  have H : ((n_cut.f l0).bind fun t151 => ((n_cut.f l1).bind fun t154 => (if (t154.length : Int) = 0 then (some (([] : List Int), ([] : List Int), 15)) else ((n_Cmp.f t151 t154).bind fun t157 => (if t157 < 0 then ((n_Norm.f t151).bind fun t158 => (some (([] : List Int), t158, 0))) else (if (t154.length : Int) = 1 then (if 0 < (t154.length : Int) then ((n_small.f t151 (rd t154 0)).bind fun bt162 => ((n_Of.f (IntKind.u64.wrap (bt162.2))).bind fun t166 => (some (bt162.1, t166, 0)))) else (none)) else (none))))))) = some (r1, r2, r3) := h
  clear h
  replace H := bnd H
  obtain ⟨t151, A30, H⟩ := H
  have A3 := zMk A30
  clear A30
  replace H := bnd H
  obtain ⟨t154, A40, H⟩ := H
  have A4 := zMk A40
  clear A40
  by_cases c5 : (t154.length : Int) = 0
  · rw [if_pos c5] at H
    have c5b0 : ((t154.length : Int) == 0) = true := beq_iff_eq.mpr c5
    have c5b1 : ((t154.length : Int) != 0) = false := bne_eq_false_iff_eq.mpr c5
    clear c5
    simp only [Option.some.injEq, Prod.mk.injEq] at H
    obtain ⟨rfl, rfl, rfl⟩ := H
    go_enter Tryd.func32, Tryd.ntmps32
    go_wp2_with (first |  ((with_reducible refine gate_callee (f := 56) rfl ?_); refine goesL_ (some 24) rfl rfl Tryd.func56 (by kernel_rfl) rfl #[.slice A0 l0.length c0] rfl (by (try simp only [zMa, zMc, zMn]); first |  done|  rfl|  (simp only [zLd, zLt]; rfl)) ?_; (with_reducible refine (n_cut.calls (fun k_ => ((P0_ k_ ∨ P1_ k_) ∨ w.heap.size ≤ k_)) _ _ l0 t151 _ ?side1 A3.out).mono ?_); (case side1 => exact HO0.out); rintro e w6 ⟨v152, rfl, ho0, hb⟩; refine ⟨_, rfl, ?_⟩; replace HO0 := zMk (zVb (by exact uV HO0.out) hb); replace HO1 := zMk (zVb (by exact uV HO1.out) hb); have HO153 := zMk (zVl (zVm (ok' := fun k_ => ((P0_ k_ ∨ P1_ k_) ∨ w.heap.size ≤ k_)) ho0 (fun k_ hk_ => Or.elim hk_ (fun hs_ => hs_) (fun hn_ => (.inr (Nat.le_trans (zBs (by exact uT HB.out)) hn_))))) (zBs (by exact uT HB.out))); replace HB := zMk (zBt (by exact uT HB.out) hb); (try clear hb); (try clear hb2); (try clear hk); (try clear hi); (try clear ho0))|  ((with_reducible refine gate_callee (f := 56) rfl ?_); refine goesL_ (some 26) rfl rfl Tryd.func56 (by kernel_rfl) rfl #[.slice A1 l1.length c1] rfl (by (try simp only [zMa, zMc, zMn]); first |  done|  rfl|  (simp only [zLd, zLt]; rfl)) ?_; (with_reducible refine (n_cut.calls (fun k_ => ((P0_ k_ ∨ P1_ k_) ∨ w.heap.size ≤ k_)) _ _ l1 t154 _ ?side1 A4.out).mono ?_); (case side1 => exact HO1.out); rintro e w7 ⟨v155, rfl, ho0, hb⟩; refine ⟨_, rfl, ?_⟩; replace HO0 := zMk (zVb (by exact uV HO0.out) hb); replace HO1 := zMk (zVb (by exact uV HO1.out) hb); replace HO153 := zMk (zVb (by exact uV HO153.out) hb); have HO156 := zMk (zVl (zVm (ok' := fun k_ => ((P0_ k_ ∨ P1_ k_) ∨ w.heap.size ≤ k_)) ho0 (fun k_ hk_ => Or.elim hk_ (fun hs_ => hs_) (fun hn_ => (.inr (Nat.le_trans (zBs (by exact uT HB.out)) hn_))))) (zBs (by exact uT HB.out))); replace HB := zMk (zBt (by exact uT HB.out) hb); (try clear hb); (try clear hb2); (try clear hk); (try clear hi); (try clear ho0); obtain ⟨Ao8, co8, eo8⟩ := zVs HO156.out; subst eo8))
    go_ret3
    exact ⟨_, _, by first | rfl | (simp [errW_none, errW_some] <;> rfl) | (simp [*, errW_none, errW_some] <;> rfl), (by first | exact Kd.V_nil _ _ _ _ _ | exact zVm (Kd.R_V (by first | exact Kd.R_nil _ _ _ _ _ | exact Kd.N_nil _ _ _ _ _ | exact Kd.V_nil _ _ _ _ _ | exact Kd.Q_nil _ _ _ _ _ | exact Kd.S_nil _ _ _ _ _)) (fun k_ hk => by first | exact ⟨(.inr (hk.1)), hk.2⟩ | exact (.inr (hk)))), (by first | exact Kd.V_nil _ _ _ _ _ | exact zVm (Kd.R_V (by first | exact Kd.R_nil _ _ _ _ _ | exact Kd.N_nil _ _ _ _ _ | exact Kd.V_nil _ _ _ _ _ | exact Kd.Q_nil _ _ _ _ _ | exact Kd.S_nil _ _ _ _ _)) (fun k_ hk => by first | exact ⟨(.inr (hk.1)), hk.2⟩ | exact (.inr (hk)))), by exact uT HB.out⟩
  · rw [if_neg c5] at H
    have c5b0 : ((t154.length : Int) == 0) = false := beq_eq_false_iff_ne.mpr c5
    have c5b1 : ((t154.length : Int) != 0) = true := bne_iff_ne.mpr c5
    have c5b2 : ¬ (t154 = []) := fun h_ => c5 (by rw [h_]; rfl)
    replace H := bnd H
    obtain ⟨t157, A90, H⟩ := H
    have A9 := zMk A90
    clear A90
    by_cases c10 : t157 < 0
    · rw [if_pos c10] at H
      have c10b0 : decide (t157 < 0) = true := decide_eq_true c10
      clear c10
      replace H := bnd H
      obtain ⟨t158, A110, H⟩ := H
      have A11 := zMk A110
      clear A110
      simp only [Option.some.injEq, Prod.mk.injEq] at H
      obtain ⟨rfl, rfl, rfl⟩ := H
      go_enter Tryd.func32, Tryd.ntmps32
      go_wp2_with (first |  ((with_reducible refine gate_callee (f := 56) rfl ?_); refine goesL_ (some 24) rfl rfl Tryd.func56 (by kernel_rfl) rfl #[.slice A0 l0.length c0] rfl (by (try simp only [zMa, zMc, zMn]); first |  done|  rfl|  (simp only [zLd, zLt]; rfl)) ?_; (with_reducible refine (n_cut.calls (fun k_ => ((P0_ k_ ∨ P1_ k_) ∨ w.heap.size ≤ k_)) _ _ l0 t151 _ ?side1 A3.out).mono ?_); (case side1 => exact HO0.out); rintro e w12 ⟨v152, rfl, ho0, hb⟩; refine ⟨_, rfl, ?_⟩; replace HO0 := zMk (zVb (by exact uV HO0.out) hb); replace HO1 := zMk (zVb (by exact uV HO1.out) hb); have HO153 := zMk (zVl (zVm (ok' := fun k_ => ((P0_ k_ ∨ P1_ k_) ∨ w.heap.size ≤ k_)) ho0 (fun k_ hk_ => Or.elim hk_ (fun hs_ => hs_) (fun hn_ => (.inr (Nat.le_trans (zBs (by exact uT HB.out)) hn_))))) (zBs (by exact uT HB.out))); replace HB := zMk (zBt (by exact uT HB.out) hb); (try clear hb); (try clear hb2); (try clear hk); (try clear hi); (try clear ho0))|  ((with_reducible refine gate_callee (f := 56) rfl ?_); refine goesL_ (some 26) rfl rfl Tryd.func56 (by kernel_rfl) rfl #[.slice A1 l1.length c1] rfl (by (try simp only [zMa, zMc, zMn]); first |  done|  rfl|  (simp only [zLd, zLt]; rfl)) ?_; (with_reducible refine (n_cut.calls (fun k_ => ((P0_ k_ ∨ P1_ k_) ∨ w.heap.size ≤ k_)) _ _ l1 t154 _ ?side1 A4.out).mono ?_); (case side1 => exact HO1.out); rintro e w13 ⟨v155, rfl, ho0, hb⟩; refine ⟨_, rfl, ?_⟩; replace HO0 := zMk (zVb (by exact uV HO0.out) hb); replace HO1 := zMk (zVb (by exact uV HO1.out) hb); replace HO153 := zMk (zVb (by exact uV HO153.out) hb); have HO156 := zMk (zVl (zVm (ok' := fun k_ => ((P0_ k_ ∨ P1_ k_) ∨ w.heap.size ≤ k_)) ho0 (fun k_ hk_ => Or.elim hk_ (fun hs_ => hs_) (fun hn_ => (.inr (Nat.le_trans (zBs (by exact uT HB.out)) hn_))))) (zBs (by exact uT HB.out))); replace HB := zMk (zBt (by exact uT HB.out) hb); (try clear hb); (try clear hb2); (try clear hk); (try clear hi); (try clear ho0); obtain ⟨Ao14, co14, eo14⟩ := zVs HO156.out; subst eo14; obtain ⟨Ao15, co15, eo15⟩ := zVs HO153.out; subst eo15)|  ((with_reducible refine gate_callee (f := 49) rfl ?_); refine goesL_ (some 34) rfl rfl Tryd.func49 (by kernel_rfl) rfl #[.slice Ao15 t151.length co15, .slice Ao14 t154.length co14] rfl (by (try simp only [zMa, zMc, zMn]); first |  done|  rfl|  (simp only [zLd, zLt]; rfl)) ?_; (with_reducible refine (n_Cmp.calls _ _ t151 _ _ t154 t157 _ ?side1 ?side2 ?side3 ?side4 A9.out).mono ?_); (case side1 => exact uC (zVr HO153.out).2.2); (case side2 => exact (zVr HO153.out).2.1); (case side3 => exact uC (zVr HO156.out).2.2); (case side4 => exact (zVr HO156.out).2.1); rintro e w16 ⟨rfl, hb⟩; refine ⟨_, rfl, ?_⟩; replace HO0 := zMk (zVb (by exact uV HO0.out) hb); replace HO1 := zMk (zVb (by exact uV HO1.out) hb); replace HO153 := zMk (zVb (by exact uV HO153.out) hb); replace HO156 := zMk (zVb (by exact uV HO156.out) hb); replace HB := zMk (zBt (by exact uT HB.out) hb); (try clear hb); (try clear hb2); (try clear hk); (try clear hi))|  ((with_reducible refine gate_callee (f := 57) rfl ?_); refine goesL_ (some 37) rfl rfl Tryd.func57 (by kernel_rfl) rfl #[.slice Ao15 t151.length co15] rfl (by (try simp only [zMa, zMc, zMn]); first |  done|  rfl|  (simp only [zLd, zLt]; rfl)) ?_; (with_reducible refine (n_Norm.calls _ _ t151 t158 _ ?side1 ?side2 A11.out).mono ?_); (case side1 => exact uC (zVr HO153.out).2.2); (case side2 => exact (zVr HO153.out).2.1); rintro e w17 ⟨v159, rfl, ho0, hb⟩; refine ⟨_, rfl, ?_⟩; replace HO0 := zMk (zVe (by exact uV HO0.out) (zRz ho0) hb); replace HO1 := zMk (zVe (by exact uV HO1.out) (zRz ho0) hb); replace HO153 := zMk (zVe (by exact uV HO153.out) (zRz ho0) hb); replace HO156 := zMk (zVe (by exact uV HO156.out) (zRz ho0) hb); have HO160 := zMk (zRl (Kd.R_newM (M := fun k_ => (w.heap.size ≤ k_)) ho0 (zBs (by exact uT HB.out)) (fun k_ h_ => h_)) (zBs (by exact uT HB.out))); replace HB := zMk (zBt (by exact uT HB.out) hb); (try clear hb); (try clear hb2); (try clear hk); (try clear hi); (try clear ho0)))
      go_ret3
      exact ⟨_, _, by first | rfl | (simp [errW_none, errW_some] <;> rfl) | (simp [*, errW_none, errW_some] <;> rfl), (by first | exact Kd.V_nil _ _ _ _ _ | exact zVm (Kd.R_V (by first | exact Kd.R_nil _ _ _ _ _ | exact Kd.N_nil _ _ _ _ _ | exact Kd.V_nil _ _ _ _ _ | exact Kd.Q_nil _ _ _ _ _ | exact Kd.S_nil _ _ _ _ _)) (fun k_ hk => by first | exact ⟨(.inr (hk.1)), hk.2⟩ | exact (.inr (hk)))), zVm (Kd.R_V (by (with_reducible repeat (first | apply zRa | apply zRn | apply zRd)); exact zRm HO160.out (fun _ hk => hk.1))) (fun k_ hk => by first | exact ⟨(.inr (hk.1)), hk.2⟩ | exact (.inr (hk))), by exact uT HB.out⟩
    · rw [if_neg c10] at H
      have c10b0 : decide (t157 < 0) = false := decide_eq_false c10
      clear c10
      by_cases c18 : (t154.length : Int) = 1
      · rw [if_pos c18] at H
        have c18b0 : ((t154.length : Int) == 1) = true := beq_iff_eq.mpr c18
        have c18b1 : ((t154.length : Int) != 1) = false := bne_eq_false_iff_eq.mpr c18
        clear c18
        by_cases c19 : 0 < (t154.length : Int)
        rotate_left
        · rw [if_neg c19] at H; exact absurd H (by simp)
        rw [if_pos c19] at H
        have c19b0 : decide (0 < (t154.length : Int)) = true := decide_eq_true c19
        have c19b1 : decide (0 < t154.length) = true := decide_eq_true (by omega)
        clear c19
        replace H := bnd H
        obtain ⟨⟨t162, t165⟩, A200, H⟩ := H
        replace H : ((n_Of.f (IntKind.u64.wrap (t165))).bind fun t166 => (some (t162, t166, 0))) = some (r1, r2, r3) := H
        have A20 := zMk A200
        clear A200
        replace H := bnd H
        obtain ⟨t166, A210, H⟩ := H
        have A21 := zMk A210
        clear A210
        simp only [Option.some.injEq, Prod.mk.injEq] at H
        obtain ⟨rfl, rfl, rfl⟩ := H
        go_enter Tryd.func32, Tryd.ntmps32
        go_wp2_with (first |  ((with_reducible refine gate_callee (f := 56) rfl ?_); refine goesL_ (some 24) rfl rfl Tryd.func56 (by kernel_rfl) rfl #[.slice A0 l0.length c0] rfl (by (try simp only [zMa, zMc, zMn]); first |  done|  rfl|  (simp only [zLd, zLt]; rfl)) ?_; (with_reducible refine (n_cut.calls (fun k_ => ((P0_ k_ ∨ P1_ k_) ∨ w.heap.size ≤ k_)) _ _ l0 t151 _ ?side1 A3.out).mono ?_); (case side1 => exact HO0.out); rintro e w22 ⟨v152, rfl, ho0, hb⟩; refine ⟨_, rfl, ?_⟩; replace HO0 := zMk (zVb (by exact uV HO0.out) hb); replace HO1 := zMk (zVb (by exact uV HO1.out) hb); have HO153 := zMk (zVl (zVm (ok' := fun k_ => ((P0_ k_ ∨ P1_ k_) ∨ w.heap.size ≤ k_)) ho0 (fun k_ hk_ => Or.elim hk_ (fun hs_ => hs_) (fun hn_ => (.inr (Nat.le_trans (zBs (by exact uT HB.out)) hn_))))) (zBs (by exact uT HB.out))); replace HB := zMk (zBt (by exact uT HB.out) hb); (try clear hb); (try clear hb2); (try clear hk); (try clear hi); (try clear ho0))|  ((with_reducible refine gate_callee (f := 56) rfl ?_); refine goesL_ (some 26) rfl rfl Tryd.func56 (by kernel_rfl) rfl #[.slice A1 l1.length c1] rfl (by (try simp only [zMa, zMc, zMn]); first |  done|  rfl|  (simp only [zLd, zLt]; rfl)) ?_; (with_reducible refine (n_cut.calls (fun k_ => ((P0_ k_ ∨ P1_ k_) ∨ w.heap.size ≤ k_)) _ _ l1 t154 _ ?side1 A4.out).mono ?_); (case side1 => exact HO1.out); rintro e w23 ⟨v155, rfl, ho0, hb⟩; refine ⟨_, rfl, ?_⟩; replace HO0 := zMk (zVb (by exact uV HO0.out) hb); replace HO1 := zMk (zVb (by exact uV HO1.out) hb); replace HO153 := zMk (zVb (by exact uV HO153.out) hb); have HO156 := zMk (zVl (zVm (ok' := fun k_ => ((P0_ k_ ∨ P1_ k_) ∨ w.heap.size ≤ k_)) ho0 (fun k_ hk_ => Or.elim hk_ (fun hs_ => hs_) (fun hn_ => (.inr (Nat.le_trans (zBs (by exact uT HB.out)) hn_))))) (zBs (by exact uT HB.out))); replace HB := zMk (zBt (by exact uT HB.out) hb); (try clear hb); (try clear hb2); (try clear hk); (try clear hi); (try clear ho0); obtain ⟨Ao24, co24, eo24⟩ := zVs HO156.out; subst eo24; obtain ⟨Ao25, co25, eo25⟩ := zVs HO153.out; subst eo25)|  ((with_reducible refine gate_callee (f := 49) rfl ?_); refine goesL_ (some 34) rfl rfl Tryd.func49 (by kernel_rfl) rfl #[.slice Ao25 t151.length co25, .slice Ao24 t154.length co24] rfl (by (try simp only [zMa, zMc, zMn]); first |  done|  rfl|  (simp only [zLd, zLt]; rfl)) ?_; (with_reducible refine (n_Cmp.calls _ _ t151 _ _ t154 t157 _ ?side1 ?side2 ?side3 ?side4 A9.out).mono ?_); (case side1 => exact uC (zVr HO153.out).2.2); (case side2 => exact (zVr HO153.out).2.1); (case side3 => exact uC (zVr HO156.out).2.2); (case side4 => exact (zVr HO156.out).2.1); rintro e w26 ⟨rfl, hb⟩; refine ⟨_, rfl, ?_⟩; replace HO0 := zMk (zVb (by exact uV HO0.out) hb); replace HO1 := zMk (zVb (by exact uV HO1.out) hb); replace HO153 := zMk (zVb (by exact uV HO153.out) hb); replace HO156 := zMk (zVb (by exact uV HO156.out) hb); replace HB := zMk (zBt (by exact uT HB.out) hb); (try clear hb); (try clear hb2); (try clear hk); (try clear hi); have p161 : 0 ≤ (0 : Int) := (by omega); have q161 : 0 < (t154.length : Int) := of_decide_eq_true (by first |  (with_reducible assumption)|  assumption); obtain ⟨ad161, e161, hx161_0⟩ := zAi (zVr HO156.out).2.2 0 p161 q161; cases e161; have qi161 : (0 < t154.length) = True := eq_true (by omega); (try rw [show ((0 : Int)).toNat = 0 from rfl] at hx161_0); (try rw [Addr.add_zero'] at hx161_0); replace p161 := eq_true p161; replace q161 := eq_true q161)|  ((with_reducible refine gate_callee (f := 58) rfl ?_); refine goesL_ (some 47) rfl rfl Tryd.func58 (by kernel_rfl) rfl #[.slice Ao25 t151.length co25, .int .u32 (rd t154 0)] rfl (by (try simp only [zMa, zMc, zMn]); first |  done|  rfl|  (simp only [zLd, zLt]; rfl)) ?_; (with_reducible refine (n_small.calls _ _ t151 (rd t154 0) t162 t165 _ ?side1 ?side2 A20.out).mono ?_); (case side1 => exact uC (zVr HO153.out).2.2); (case side2 => exact (zVr HO153.out).2.1); rintro e w27 ⟨v163, rfl, ho0, hb⟩; refine ⟨_, rfl, ?_⟩; replace HO0 := zMk (zVb (by exact uV HO0.out) hb); replace HO1 := zMk (zVb (by exact uV HO1.out) hb); replace HO153 := zMk (zVb (by exact uV HO153.out) hb); replace HO156 := zMk (zVb (by exact uV HO156.out) hb); have HO164 := zMk (zVl (zVm (ok' := fun k_ => ((P0_ k_ ∨ P1_ k_) ∨ w.heap.size ≤ k_)) ho0 (fun k_ hk_ => (.inr (Nat.le_trans (zBs (by exact uT HB.out)) hk_)))) (zBs (by exact uT HB.out))); replace HB := zMk (zBt (by exact uT HB.out) hb); (try clear hb); (try clear hb2); (try clear hk); (try clear hi); (try clear ho0))|  ((with_reducible refine gate_callee (f := 34) rfl ?_); refine goesL_ (some 53) rfl rfl Tryd.func34 (by kernel_rfl) rfl #[.int .u64 (IntKind.u64.wrap (t165))] rfl (by (try simp only [zMa, zMc, zMn]); first |  done|  rfl|  (simp only [zLd, zLt]; rfl)) ?_; (with_reducible refine (n_Of.calls (IntKind.u64.wrap (t165)) t166 _ A21.out).mono ?_); rintro e w28 ⟨v167, rfl, ho0, hb⟩; refine ⟨_, rfl, ?_⟩; replace HO0 := zMk (zVb (by exact uV HO0.out) hb); replace HO1 := zMk (zVb (by exact uV HO1.out) hb); replace HO153 := zMk (zVb (by exact uV HO153.out) hb); replace HO156 := zMk (zVb (by exact uV HO156.out) hb); replace HO164 := zMk (zVb (by exact uV HO164.out) hb); have HO168 := zMk (zVl (zVm (ok' := fun k_ => ((P0_ k_ ∨ P1_ k_) ∨ w.heap.size ≤ k_)) ho0 (fun k_ hk_ => (.inr (Nat.le_trans (zBs (by exact uT HB.out)) hk_)))) (zBs (by exact uT HB.out))); replace HB := zMk (zBt (by exact uT HB.out) hb); (try clear hb); (try clear hb2); (try clear hk); (try clear hi); (try clear ho0)))
        go_ret3
        exact ⟨_, _, by first | rfl | (simp [errW_none, errW_some] <;> rfl) | (simp [*, errW_none, errW_some] <;> rfl), by exact uV HO164.out, by exact uV HO168.out, by exact uT HB.out⟩
      · rw [if_neg c18] at H
        exact absurd H (by simp)


def bits_Add32.f (a0 : Int) (a1 : Int) (a2 : Int) : Option (Int × Int) := some ((IntKind.u64.wrap ((IntKind.u64.wrap ((IntKind.u64.wrap (a0)) + (IntKind.u64.wrap (a1)))) + (IntKind.u64.wrap (a2)))) % 4294967296, ((IntKind.u64.wrap ((IntKind.u64.wrap ((IntKind.u64.wrap (a0)) + (IntKind.u64.wrap (a1)))) + (IntKind.u64.wrap (a2)))) / 4294967296) % 4294967296)
set_option maxHeartbeats 8000000 in
set_option maxRecDepth 100000 in
theorem bits_Add32.calls (a0 : Int) (a1 : Int) (a2 : Int) (r1 : Int) (r2 : Int) (w : World) (h : bits_Add32.f a0 a1 a2 = some (r1, r2)) :
    Calls Tryd.prog 62 #[.int .u32 a0, .int .u32 a1, .int .u32 a2] w fun e w' => e = .returned (.tuple #[.int .u32 r1, .int .u32 r2]) ∧ Drawn0 w w' := by
  have H : (some ((IntKind.u64.wrap ((IntKind.u64.wrap ((IntKind.u64.wrap (a0)) + (IntKind.u64.wrap (a1)))) + (IntKind.u64.wrap (a2)))) % 4294967296, ((IntKind.u64.wrap ((IntKind.u64.wrap ((IntKind.u64.wrap (a0)) + (IntKind.u64.wrap (a1)))) + (IntKind.u64.wrap (a2)))) / 4294967296) % 4294967296)) = some (r1, r2) := h
  clear h
  simp only [Option.some.injEq, Prod.mk.injEq] at H
  obtain ⟨rfl, rfl⟩ := H
  go_enter Tryd.func62, Tryd.ntmps62
  go_wp2
  go_ret2
  exact ⟨by first | rfl | (simp; done) | (simp [*]; done), by repeat (first | exact Drawn0.refl _ | apply Drawn0.step)⟩


mutual
def n_Add.j0 : Nat → List Int → List Int → Option (List Int)
  | 0, _, _ => none
  | k + 1, x0, x1 => if 0 ≤ (wrap64 ((x0.length : Int) + 1)) then (if (wrap64 ((x0.length : Int) + 1) : Int).toNat ≤ 70368744177664 then (n_Add.l0 k x0 x1 (List.replicate (wrap64 ((x0.length : Int) + 1) : Int).toNat 0) 0 x0 (x0.length : Int) 0) else (none)) else (none)
def n_Add.l0 : Nat → List Int → List Int → List Int → Int → List Int → Int → Int → Option (List Int)
  | 0, _, _, _, _, _, _, _ => none
  | k + 1, x0, x1, x5, x6, x25, x26, x27 => if x27 < x26 then (if 0 ≤ x27 then (if x27 < (x25.length : Int) then (if x27 < (x1.length : Int) then ((bits_Add32.f (rd x25 x27) (rd x1 x27) x6).bind fun bt236 => (if x27 < (x5.length : Int) then (n_Add.l0 k x0 x1 (x5.set (x27 : Int).toNat bt236.1) bt236.2 x25 x26 (wrap64 (x27 + 1))) else (none))) else ((bits_Add32.f (rd x25 x27) 0 x6).bind fun bt239 => (if x27 < (x5.length : Int) then (n_Add.l0 k x0 x1 (x5.set (x27 : Int).toNat bt239.1) bt239.2 x25 x26 (wrap64 (x27 + 1))) else (none)))) else (none)) else (none)) else (if 0 ≤ (x0.length : Int) then (if (x0.length : Int) < (x5.length : Int) then ((n_cut.f (x5.set ((x0.length : Int) : Int).toNat x6)).bind fun t243 => (some t243)) else (none)) else (none))
end
def n_Add.f (k : Nat) (l0 : List Int) (l1 : List Int) : Option (List Int) := (n_cut.f l0).bind fun t225 => ((n_cut.f l1).bind fun t228 => (if (t225.length : Int) < (t228.length : Int) then (n_Add.j0 k t228 t225) else (n_Add.j0 k t225 t228)))
set_option maxHeartbeats 8000000 in
set_option maxRecDepth 100000 in
theorem n_Add.calls (k : Nat) (P0_ : Nat → Prop) (A0 : Option Addr) (c0 : Nat) (l0 : List Int) (P1_ : Nat → Prop) (A1 : Option Addr) (c1 : Nat) (l1 : List Int) (r : List Int) (w : World) (hs0 : Kd.V (Kd.int .u32) 58 w w.heap.size (fun k_ => P0_ k_) (.slice A0 l0.length c0) l0) (hs1 : Kd.V (Kd.int .u32) 58 w w.heap.size (fun k_ => P1_ k_) (.slice A1 l1.length c1) l1) (h : n_Add.f k l0 l1 = some r) :
    Calls Tryd.prog 33 #[.slice A0 l0.length c0, .slice A1 l1.length c1] w fun e w' => ∃ v0_ : Value, e = .returned (v0_) ∧ Kd.V (Kd.int .u32) 58 w' w.heap.size (fun k_ => ((P0_ k_ ∨ P1_ k_) ∨ w.heap.size ≤ k_)) v0_ r ∧ Below w.heap.size w w' := by
  have HO0 := zMk (show Kd.V (Kd.int .u32) 58 w w.heap.size (fun k_ => ((P0_ k_ ∨ P1_ k_) ∨ w.heap.size ≤ k_)) (.slice A0 l0.length c0) l0 from zVm hs0 (fun k_ hk => .inl (.inl hk)))
  have HO1 := zMk (show Kd.V (Kd.int .u32) 58 w w.heap.size (fun k_ => ((P0_ k_ ∨ P1_ k_) ∨ w.heap.size ≤ k_)) (.slice A1 l1.length c1) l1 from zVm hs1 (fun k_ hk => .inl (.inr hk)))
  have HB := zMk (Below.refl w.heap.size w)
  have H : ((n_cut.f l0).bind fun t225 => ((n_cut.f l1).bind fun t228 => (if (t225.length : Int) < (t228.length : Int) then (n_Add.j0 k t228 t225) else (n_Add.j0 k t225 t228)))) = some r := h
  clear h
  replace H := bnd H
  obtain ⟨t225, A30, H⟩ := H
  have A3 := zMk A30
  clear A30
  replace H := bnd H
  obtain ⟨t228, A40, H⟩ := H
  have A4 := zMk A40
  clear A40
  have HC5 := zMk H
  clear H
  go_enter Tryd.func33, Tryd.ntmps33
  go_upto_if 18 with (first |  ((with_reducible refine gate_callee (f := 56) rfl ?_); refine goesL_ (some 11) rfl rfl Tryd.func56 (by kernel_rfl) rfl #[.slice A0 l0.length c0] rfl (by (try simp only [zMa, zMc, zMn]); first |  done|  rfl|  (simp only [zLd, zLt]; rfl)) ?_; (with_reducible refine (n_cut.calls (fun k_ => ((P0_ k_ ∨ P1_ k_) ∨ w.heap.size ≤ k_)) _ _ l0 t225 _ ?side1 A3.out).mono ?_); (case side1 => exact HO0.out); rintro e w6 ⟨v226, rfl, ho0, hb⟩; refine ⟨_, rfl, ?_⟩; replace HO0 := zMk (zVb (by exact uV HO0.out) hb); replace HO1 := zMk (zVb (by exact uV HO1.out) hb); have HO227 := zMk (zVl (zVm (ok' := fun k_ => ((P0_ k_ ∨ P1_ k_) ∨ w.heap.size ≤ k_)) ho0 (fun k_ hk_ => Or.elim hk_ (fun hs_ => hs_) (fun hn_ => (.inr (Nat.le_trans (zBs (by exact uT HB.out)) hn_))))) (zBs (by exact uT HB.out))); replace HB := zMk (zBt (by exact uT HB.out) hb); (try clear hb); (try clear hb2); (try clear hk); (try clear hi); (try clear ho0))|  ((with_reducible refine gate_callee (f := 56) rfl ?_); refine goesL_ (some 13) rfl rfl Tryd.func56 (by kernel_rfl) rfl #[.slice A1 l1.length c1] rfl (by (try simp only [zMa, zMc, zMn]); first |  done|  rfl|  (simp only [zLd, zLt]; rfl)) ?_; (with_reducible refine (n_cut.calls (fun k_ => ((P0_ k_ ∨ P1_ k_) ∨ w.heap.size ≤ k_)) _ _ l1 t228 _ ?side1 A4.out).mono ?_); (case side1 => exact HO1.out); rintro e w7 ⟨v229, rfl, ho0, hb⟩; refine ⟨_, rfl, ?_⟩; replace HO0 := zMk (zVb (by exact uV HO0.out) hb); replace HO1 := zMk (zVb (by exact uV HO1.out) hb); replace HO227 := zMk (zVb (by exact uV HO227.out) hb); have HO230 := zMk (zVl (zVm (ok' := fun k_ => ((P0_ k_ ∨ P1_ k_) ∨ w.heap.size ≤ k_)) ho0 (fun k_ hk_ => Or.elim hk_ (fun hs_ => hs_) (fun hn_ => (.inr (Nat.le_trans (zBs (by exact uT HB.out)) hn_))))) (zBs (by exact uT HB.out))); replace HB := zMk (zBt (by exact uT HB.out) hb); (try clear hb); (try clear hb2); (try clear hk); (try clear hi); (try clear ho0); obtain ⟨Ao8, co8, eo8⟩ := zVs HO227.out; subst eo8; obtain ⟨Ao9, co9, eo9⟩ := zVs HO230.out; subst eo9))
  (try simp only [Act.put, zSa, zSb, zSc])
  go_cut [0, 1] (fun v0 v1 wc => ∃ (kq : Nat) (x0_4 : List Int) (x1_4 : List Int), Aside0 (n_Add.j0 kq x0_4 x1_4 = some r) ∧ Aside0 (kq ≤ k) ∧ Aside0 (Kd.V (Kd.int .u32) 58 wc w.heap.size (fun k_ => ((P0_ k_ ∨ P1_ k_) ∨ w.heap.size ≤ k_)) v0 x0_4) ∧ Aside0 (Kd.V (Kd.int .u32) 58 wc w.heap.size (fun k_ => ((P0_ k_ ∨ P1_ k_) ∨ w.heap.size ≤ k_)) v1 x1_4) ∧ Aside0 (Below w.heap.size w wc))
  case first =>
    have H := HC5.out
    clear HC5
    by_cases c10 : (t225.length : Int) < (t228.length : Int)
    · rw [if_pos c10] at H
      have c10b0 : decide ((t225.length : Int) < (t228.length : Int)) = true := decide_eq_true c10
      have c10b1 : decide (t225.length < t228.length) = true := decide_eq_true (Int.ofNat_lt.mp c10)
      clear c10
      (first | rw [c10b0] | (simp only [i64_w, i32_w]; rw [c10b0]) | rw [c10b1] | skip)
      have H' := zMk H
      clear H
      go_wp2
      go_meet
      case rel => exact ⟨_, (t228), (t225), H', ⟨by first | omega | exact Nat.le_refl _⟩, ⟨by exact uV HO230.out⟩, ⟨by exact uV HO227.out⟩, ⟨by exact uT HB.out⟩⟩
    · rw [if_neg c10] at H
      have c10b0 : decide ((t225.length : Int) < (t228.length : Int)) = false := decide_eq_false c10
      have c10b1 : decide (t225.length < t228.length) = false := decide_eq_false (fun h => c10 (Int.ofNat_lt.mpr h))
      clear c10
      (first | rw [c10b0] | (simp only [i64_w, i32_w]; rw [c10b0]) | rw [c10b1] | skip)
      have H' := zMk H
      clear H
      go_wp2
      go_meet
      case rel => exact ⟨_, (t225), (t228), H', ⟨by first | omega | exact Nat.le_refl _⟩, ⟨by exact uV HO227.out⟩, ⟨by exact uV HO230.out⟩, ⟨by exact uT HB.out⟩⟩
  case rest =>
    clear HC5
    obtain ⟨kq, x0_4, x1_4, HA, HJ4, HO_0, HO_1, HB⟩ := hcut
    rcases kq with _ | kj4
    · exact absurd HA.out (by simp [n_Add.j0])
    have H := HA.out
    clear HA
    simp only [n_Add.j0] at H
    obtain ⟨ji11, hji11⟩ : ∃ j_ : Int, (wrap64 ((x0_4.length : Int) + 1)) = j_ := ⟨_, rfl⟩
    replace H : (if 0 ≤ (ji11) then (if (ji11 : Int).toNat ≤ 70368744177664 then (n_Add.l0 kj4 x0_4 x1_4 (List.replicate (ji11 : Int).toNat 0) 0 x0_4 (x0_4.length : Int) 0) else (none)) else (none)) = some r := by first | (rw [hji11] at H; exact H) | (simp only [hji11] at H ⊢; exact H)
    have hji11w : (IntKind.i64.wrap ((x0_4.length : Int) + 1)) = ji11 := (i64_w _).trans hji11
    by_cases c12 : 0 ≤ (ji11)
    · rw [if_pos c12] at H
      have c12b0 := eq_true c12
      have c12b1 : decide (0 ≤ (ji11)) = true := decide_eq_true c12
      clear c12
      by_cases c13 : (ji11 : Int).toNat ≤ 70368744177664
      rotate_left
      · rw [if_neg c13] at H; exact absurd H (by simp)
      rw [if_pos c13] at H
      have c13b0 := eq_true c13
      have c13b1 : decide ((ji11 : Int).toNat ≤ 70368744177664) = true := decide_eq_true c13
      clear c13
      obtain ⟨y231, hy231⟩ : ∃ y_ : List Int, y_ = (List.replicate (ji11 : Int).toNat 0) := ⟨_, rfl⟩
      replace H : (n_Add.l0 kj4 x0_4 x1_4 y231 0 x0_4 (x0_4.length : Int) 0) = some r := by first | (rw [hy231]; with_reducible exact H) | (have H2_ := (zOb _ _).symm.trans H; rw [hy231]; with_reducible exact H2_) | (have H2_ := (zOb _ _).symm.trans H; with_reducible exact H2_) | with_reducible exact H | (rw [hy231]; exact H) | exact H
      have Ny231 := zMk hy231
      clear hy231
      have H' := zMk H
      clear H
      obtain ⟨Ao14, co14, eo14⟩ := zVs HO_0.out
      subst eo14
      go_wp2_with (first |  ((with_reducible refine gate_dst (N := 24) rfl ?_); refine Kd.R_make (Kd.int .u32) _ 58 rfl (N := 24) rfl 22 _ _ rfl ji11 rfl rfl Tryd.underlying22 (.int .u32 0) 4 info58 rfl (by decide) (by omega) 0 (ok := fun _ => True) (okp := fun _ => True) rfl (fun _ hk => hk) trivial (of_decide_eq_true (by first |  (with_reducible assumption)|  assumption)) (Nat.le_trans (Nat.mul_le_mul_right _ (of_decide_eq_true (by first |  (with_reducible assumption)|  assumption) : ji11.toNat ≤ 70368744177664)) (by omega)) (Below.refl _ _) (Nat.le_refl _) ?_; intro v232 w15 ho16 hb hg_ hnew_; clear hg_ hnew_; (first |  rw [← Ny231.out] at ho16|  (simp only [Int.reduceToNat] at ho16; rw [← Ny231.out] at ho16)); replace HO_0 := zMk (zVe (by exact uV HO_0.out) (zRz ho16) hb); replace HO_1 := zMk (zVe (by exact uV HO_1.out) (zRz ho16) hb); have HO233 := zMk (zRl (Kd.R_newM (M := fun k_ => (w.heap.size ≤ k_)) ho16 (zBs (by exact uT HB.out)) (fun k_ h_ => h_)) (zBs (by exact uT HB.out))); replace HB := zMk (zBt (by exact uT HB.out) hb); clear hb ho16))
      go_loopg [6, 27] kj4 (fun kq v6 v27 w' => ∃ (x5_2 : List Int) (x6_2 : Int) (x27_2 : Int), v6 = .int .u32 x6_2 ∧ v27 = .int .i64 x27_2 ∧ Aside0 (n_Add.l0 kq x0_4 x1_4 x5_2 x6_2 x0_4 (x0_4.length : Int) x27_2 = some r) ∧ Aside0 (kq ≤ kj4) ∧ Aside0 (Kd.V (Kd.int .u32) 58 w' w.heap.size (fun k_ => ((P0_ k_ ∨ P1_ k_) ∨ w.heap.size ≤ k_) ∧ some k_ ≠ (v232 : Value).ownBlock) (.slice Ao14 x0_4.length co14) x0_4) ∧ Aside0 (Kd.V (Kd.int .u32) 58 w' w.heap.size (fun k_ => ((P0_ k_ ∨ P1_ k_) ∨ w.heap.size ≤ k_) ∧ some k_ ≠ (v232 : Value).ownBlock) u1 x1_4) ∧ Aside0 (Kd.R (Kd.int .u32) 58 w' w.heap.size (fun k_ => (w.heap.size ≤ k_)) v232 x5_2) ∧ Aside0 (Kd.V (Kd.int .u32) 58 w' w.heap.size (fun k_ => ((P0_ k_ ∨ P1_ k_) ∨ w.heap.size ≤ k_) ∧ some k_ ≠ (v232 : Value).ownBlock) (.slice Ao14 x0_4.length co14) x0_4) ∧ Aside0 (Below w.heap.size w w'))
      case atStart => exact ⟨(y231), (0), (0), (by first | rfl | (simp; done) | (simp [*]; done)), (by first | rfl | (simp; done) | (simp [*]; done)), H', ⟨Nat.le_refl _⟩, ⟨by exact uV HO_0.out⟩, ⟨by exact uV HO_1.out⟩, ⟨by (with_reducible repeat (first | apply zRa | apply zRn | apply zRd)); exact zRm HO233.out (fun _ hk => hk.1)⟩, ⟨by exact uV HO_0.out⟩, ⟨by exact uT HB.out⟩⟩
      clear H'
      obtain ⟨x5_2, x6_2, x27_2, rfl, rfl, HA, HK2, HO_0, HO_1, HO_5, HO_25, HB⟩ := hrel
      rcases gk with _ | k2
      · exact absurd HA.out (by simp [n_Add.l0])
      have H := HA.out
      clear HA
      simp only [n_Add.l0] at H
      by_cases c17 : x27_2 < (x0_4.length : Int)
      · rw [if_pos c17] at H
        have c17b0 : decide (x27_2 < (x0_4.length : Int)) = true := decide_eq_true c17
        clear c17
        by_cases c18 : 0 ≤ x27_2
        rotate_left
        · rw [if_neg c18] at H; exact absurd H (by simp)
        rw [if_pos c18] at H
        have c18b0 : decide (0 ≤ x27_2) = true := decide_eq_true c18
        clear c18
        by_cases c19 : x27_2 < (x0_4.length : Int)
        rotate_left
        · rw [if_neg c19] at H; exact absurd H (by simp)
        rw [if_pos c19] at H
        have c19b0 : decide (x27_2 < (x0_4.length : Int)) = true := decide_eq_true c19
        clear c19
        by_cases c20 : x27_2 < (x1_4.length : Int)
        · rw [if_pos c20] at H
          have c20b0 : decide (x27_2 < (x1_4.length : Int)) = true := decide_eq_true c20
          clear c20
          replace H := bnd H
          obtain ⟨⟨t236, t237⟩, A210, H⟩ := H
          replace H : (if x27_2 < (x5_2.length : Int) then (n_Add.l0 k2 x0_4 x1_4 (x5_2.set (x27_2 : Int).toNat t236) t237 x0_4 (x0_4.length : Int) (wrap64 (x27_2 + 1))) else (none)) = some r := H
          have A21 := zMk A210
          clear A210
          by_cases c22 : x27_2 < (x5_2.length : Int)
          rotate_left
          · rw [if_neg c22] at H; exact absurd H (by simp)
          rw [if_pos c22] at H
          have c22b0 : decide (x27_2 < (x5_2.length : Int)) = true := decide_eq_true c22
          clear c22
          obtain ⟨y238, hy238⟩ : ∃ y_ : List Int, y_ = (x5_2.set (x27_2 : Int).toNat t236) := ⟨_, rfl⟩
          replace H : (n_Add.l0 k2 x0_4 x1_4 y238 t237 x0_4 (x0_4.length : Int) (wrap64 (x27_2 + 1))) = some r := by first | (rw [hy238]; with_reducible exact H) | (have H2_ := (zOb _ _).symm.trans H; rw [hy238]; with_reducible exact H2_) | (have H2_ := (zOb _ _).symm.trans H; with_reducible exact H2_) | with_reducible exact H | (rw [hy238]; exact H) | exact H
          have Ny238 := zMk hy238
          clear hy238
          have H' := zMk H
          clear H
          have p234 : 0 ≤ (x27_2 : Int) := of_decide_eq_true (by first | (with_reducible assumption) | assumption)
          have q234 : x27_2 < (x0_4.length : Int) := of_decide_eq_true (by first | (with_reducible assumption) | assumption)
          obtain ⟨ad234, e234, hx234_0⟩ := zAi (zVr HO_25.out).2.2 x27_2 p234 q234
          cases e234
          replace p234 := eq_true p234
          replace q234 := eq_true q234
          obtain ⟨Ao24, co24, eo24⟩ := zVs HO_1.out
          subst eo24
          have p235 : 0 ≤ (x27_2 : Int) := of_decide_eq_true (by first | (with_reducible assumption) | assumption)
          have q235 : x27_2 < (x1_4.length : Int) := of_decide_eq_true (by first | (with_reducible assumption) | assumption)
          obtain ⟨ad235, e235, hx235_0⟩ := zAi (zVr HO_1.out).2.2 x27_2 p235 q235
          cases e235
          replace p235 := eq_true p235
          replace q235 := eq_true q235
          go_wp2_with (first |  ((with_reducible refine gate_callee (f := 62) rfl ?_); refine goesL_ (some 46) rfl rfl Tryd.func62 (by kernel_rfl) rfl #[.int .u32 (rd x0_4 x27_2), .int .u32 (rd x1_4 x27_2), .int .u32 x6_2] rfl (by (try simp only [zMa, zMc, zMn]); first |  done|  rfl|  (simp only [zLd, zLt]; rfl)) ?_; (with_reducible refine (bits_Add32.calls (rd x0_4 x27_2) (rd x1_4 x27_2) x6_2 t236 t237 _ A21.out).mono ?_); rintro e w' ⟨rfl, ⟨nd, rfl⟩⟩; refine ⟨_, rfl, ?_⟩; (try (rw [drewN_self wr]; generalize hq_ : World.drewN wr _ = wr; have n0_ : Aside0 (Kd.V (Kd.int .u32) 58 wr w.heap.size (fun k_ => ((P0_ k_ ∨ P1_ k_) ∨ w.heap.size ≤ k_) ∧ some k_ ≠ (v232 : Value).ownBlock) (.slice (some ad234) x0_4.length co14) x0_4) := ⟨by rw [← hq_]; exact (by exact uV HO_0.out)⟩; have n1_ : Aside0 (Kd.V (Kd.int .u32) 58 wr w.heap.size (fun k_ => ((P0_ k_ ∨ P1_ k_) ∨ w.heap.size ≤ k_) ∧ some k_ ≠ (v232 : Value).ownBlock) (.slice (some ad235) x1_4.length co24) x1_4) := ⟨by rw [← hq_]; exact (by exact uV HO_1.out)⟩; have n2_ : Aside0 (Kd.V (Kd.int .u32) 58 wr w.heap.size (fun k_ => ((P0_ k_ ∨ P1_ k_) ∨ w.heap.size ≤ k_) ∧ some k_ ≠ (v232 : Value).ownBlock) (.slice (some ad234) x0_4.length co14) x0_4) := ⟨by rw [← hq_]; exact (by exact uV HO_25.out)⟩; have n3_ : Aside0 (Kd.R (Kd.int .u32) 58 wr w.heap.size (fun k_ => (w.heap.size ≤ k_)) v232 x5_2) := ⟨by rw [← hq_]; exact (by exact uR HO_5.out)⟩; have n4_ : Aside0 (Below w.heap.size w wr) := ⟨by rw [← hq_]; exact (by exact uT HB.out)⟩; clear HO_0 HO_1 HO_25 HO_5 HB hq_; have HO_0 := n0_; have HO_1 := n1_; have HO_25 := n2_; have HO_5 := n3_; have HB := n4_; clear n0_ n1_ n2_ n3_ n4_)); have p23 : 0 ≤ (x27_2 : Int) := of_decide_eq_true (by first |  (with_reducible assumption)|  assumption); have q23 : (x27_2 : Int) < ((x5_2.length : Int) : Int) := of_decide_eq_true (by first |  (with_reducible assumption)|  assumption); obtain ⟨go23, co23, eo23, gb23, gl23, cl23, HG23⟩ := Kd.R_form HO_5.out (by omega); (first |  cases eo23|  (injection eo23 with ea_ en_ ec_; (first |  subst ea_|  (injection ea_ with ea_; subst ea_)); subst ec_; clear en_)); have GB23 := zMk gb23; have IGB23 := ownGe GB23.out; have GG23 := zMk HG23; clear gb23 gl23 HG23; obtain ⟨hx23_0, hf23_0⟩ := Kd.R_celln 0 HO_5.out (x27_2 : Int) p23 q23; replace p23 := eq_true p23; replace q23 := eq_true q23; obtain ⟨hy25_, hz25_⟩ := Kd.R_celln 0 HO_5.out (x27_2 : Int) (of_decide_eq_true (by first |  (with_reducible assumption)|  assumption)) (of_decide_eq_true (by first |  (with_reducible assumption)|  assumption)); have HP25 := Kd.R_putg HO_5.out (x27_2 : Int) t236)|  ((with_reducible refine gate_store (t := 58) (p := 49) rfl ?_); refine store_event (t := 58) (p := 49) (v := ?vo_w26) (w1 := (wr.setCell ⟨go23, (x27_2 : Int).toNat, none⟩ (.int .u32 t236))) ?hg ?ho ?hn ?hr ?_; (case ho => rfl); (case hg => rfl); (case hn => rfl); (case hr => first |  (go_simp; done)|  (go_simp; rfl)|  (go_simp; rw [show ∀ x : Int, IntKind.u32.wrap (IntKind.u8.wrap x) = x % 256 from fun x => (by show (x % 256) % 4294967296 = x % 256; omega)])); intro w26 hw; have hg : wr.grownBy w26 (some go23) := (by rw [hw]; exact HP25.2); have hp_ : Kd.R (Kd.int .u32) 58 w26 w.heap.size (fun k_ => (w.heap.size ≤ k_)) (.slice (some ⟨go23, 0, none⟩) x5_2.length co23) y238 := (by rw [hw, Ny238.out]; exact HP25.1); clear HP25; replace HO_0 := zMk (Kd.V_afterv (v := (.slice (some ⟨go23, 0, none⟩) x5_2.length co23)) (v1 := (.slice (some ⟨go23, 0, none⟩) x5_2.length co23)) (ok := (fun k_ => ((P0_ k_ ∨ P1_ k_) ∨ w.heap.size ≤ k_))) (by exact uV HO_0.out) hg (.inl rfl)); replace HO_1 := zMk (Kd.V_afterv (v := (.slice (some ⟨go23, 0, none⟩) x5_2.length co23)) (v1 := (.slice (some ⟨go23, 0, none⟩) x5_2.length co23)) (ok := (fun k_ => ((P0_ k_ ∨ P1_ k_) ∨ w.heap.size ≤ k_))) (by exact uV HO_1.out) hg (.inl rfl)); replace HO_5 := zMk (hp_); replace HO_25 := zMk (Kd.V_afterv (v := (.slice (some ⟨go23, 0, none⟩) x5_2.length co23)) (v1 := (.slice (some ⟨go23, 0, none⟩) x5_2.length co23)) (ok := (fun k_ => ((P0_ k_ ∨ P1_ k_) ∨ w.heap.size ≤ k_))) (by exact uV HO_25.out) hg (.inl rfl)); replace HB := zMk ((by rw [hw]; exact below_set (HB.out) GB23.out : Below w.heap.size w w26)); clear hg hw hp_))
          go_roundg k2
          case measure => have := HJ4.out; have := HK2.out; omega
          case rel => exact ⟨(y238), (t237), (wrap64 (x27_2 + 1)), (by first | rfl | (simp; done) | (simp [*]; done)), (by first | rfl | (simp; done) | (simp [*]; done)), H', ⟨by have := HJ4.out; have := HK2.out; omega⟩, ⟨by exact uV HO_0.out⟩, ⟨by exact uV HO_1.out⟩, ⟨by exact uR HO_5.out⟩, ⟨by exact uV HO_25.out⟩, ⟨by exact uT HB.out⟩⟩
        · rw [if_neg c20] at H
          have c20b0 : decide (x27_2 < (x1_4.length : Int)) = false := decide_eq_false c20
          clear c20
          replace H := bnd H
          obtain ⟨⟨t239, t240⟩, A270, H⟩ := H
          replace H : (if x27_2 < (x5_2.length : Int) then (n_Add.l0 k2 x0_4 x1_4 (x5_2.set (x27_2 : Int).toNat t239) t240 x0_4 (x0_4.length : Int) (wrap64 (x27_2 + 1))) else (none)) = some r := H
          have A27 := zMk A270
          clear A270
          by_cases c28 : x27_2 < (x5_2.length : Int)
          rotate_left
          · rw [if_neg c28] at H; exact absurd H (by simp)
          rw [if_pos c28] at H
          have c28b0 : decide (x27_2 < (x5_2.length : Int)) = true := decide_eq_true c28
          clear c28
          obtain ⟨y241, hy241⟩ : ∃ y_ : List Int, y_ = (x5_2.set (x27_2 : Int).toNat t239) := ⟨_, rfl⟩
          replace H : (n_Add.l0 k2 x0_4 x1_4 y241 t240 x0_4 (x0_4.length : Int) (wrap64 (x27_2 + 1))) = some r := by first | (rw [hy241]; with_reducible exact H) | (have H2_ := (zOb _ _).symm.trans H; rw [hy241]; with_reducible exact H2_) | (have H2_ := (zOb _ _).symm.trans H; with_reducible exact H2_) | with_reducible exact H | (rw [hy241]; exact H) | exact H
          have Ny241 := zMk hy241
          clear hy241
          have H' := zMk H
          clear H
          have p234 : 0 ≤ (x27_2 : Int) := of_decide_eq_true (by first | (with_reducible assumption) | assumption)
          have q234 : x27_2 < (x0_4.length : Int) := of_decide_eq_true (by first | (with_reducible assumption) | assumption)
          obtain ⟨ad234, e234, hx234_0⟩ := zAi (zVr HO_25.out).2.2 x27_2 p234 q234
          cases e234
          replace p234 := eq_true p234
          replace q234 := eq_true q234
          obtain ⟨Ao30, co30, eo30⟩ := zVs HO_1.out
          subst eo30
          go_wp2_with (first |  ((with_reducible refine gate_callee (f := 62) rfl ?_); refine goesL_ (some 46) rfl rfl Tryd.func62 (by kernel_rfl) rfl #[.int .u32 (rd x0_4 x27_2), .int .u32 0, .int .u32 x6_2] rfl (by (try simp only [zMa, zMc, zMn]); first |  done|  rfl|  (simp only [zLd, zLt]; rfl)) ?_; (with_reducible refine (bits_Add32.calls (rd x0_4 x27_2) 0 x6_2 t239 t240 _ A27.out).mono ?_); rintro e w' ⟨rfl, ⟨nd, rfl⟩⟩; refine ⟨_, rfl, ?_⟩; (try (rw [drewN_self wr]; generalize hq_ : World.drewN wr _ = wr; have n0_ : Aside0 (Kd.V (Kd.int .u32) 58 wr w.heap.size (fun k_ => ((P0_ k_ ∨ P1_ k_) ∨ w.heap.size ≤ k_) ∧ some k_ ≠ (v232 : Value).ownBlock) (.slice (some ad234) x0_4.length co14) x0_4) := ⟨by rw [← hq_]; exact (by exact uV HO_0.out)⟩; have n1_ : Aside0 (Kd.V (Kd.int .u32) 58 wr w.heap.size (fun k_ => ((P0_ k_ ∨ P1_ k_) ∨ w.heap.size ≤ k_) ∧ some k_ ≠ (v232 : Value).ownBlock) (.slice Ao30 x1_4.length co30) x1_4) := ⟨by rw [← hq_]; exact (by exact uV HO_1.out)⟩; have n2_ : Aside0 (Kd.V (Kd.int .u32) 58 wr w.heap.size (fun k_ => ((P0_ k_ ∨ P1_ k_) ∨ w.heap.size ≤ k_) ∧ some k_ ≠ (v232 : Value).ownBlock) (.slice (some ad234) x0_4.length co14) x0_4) := ⟨by rw [← hq_]; exact (by exact uV HO_25.out)⟩; have n3_ : Aside0 (Kd.R (Kd.int .u32) 58 wr w.heap.size (fun k_ => (w.heap.size ≤ k_)) v232 x5_2) := ⟨by rw [← hq_]; exact (by exact uR HO_5.out)⟩; have n4_ : Aside0 (Below w.heap.size w wr) := ⟨by rw [← hq_]; exact (by exact uT HB.out)⟩; clear HO_0 HO_1 HO_25 HO_5 HB hq_; have HO_0 := n0_; have HO_1 := n1_; have HO_25 := n2_; have HO_5 := n3_; have HB := n4_; clear n0_ n1_ n2_ n3_ n4_)); have p29 : 0 ≤ (x27_2 : Int) := of_decide_eq_true (by first |  (with_reducible assumption)|  assumption); have q29 : (x27_2 : Int) < ((x5_2.length : Int) : Int) := of_decide_eq_true (by first |  (with_reducible assumption)|  assumption); obtain ⟨go29, co29, eo29, gb29, gl29, cl29, HG29⟩ := Kd.R_form HO_5.out (by omega); (first |  cases eo29|  (injection eo29 with ea_ en_ ec_; (first |  subst ea_|  (injection ea_ with ea_; subst ea_)); subst ec_; clear en_)); have GB29 := zMk gb29; have IGB29 := ownGe GB29.out; have GG29 := zMk HG29; clear gb29 gl29 HG29; obtain ⟨hx29_0, hf29_0⟩ := Kd.R_celln 0 HO_5.out (x27_2 : Int) p29 q29; replace p29 := eq_true p29; replace q29 := eq_true q29; obtain ⟨hy31_, hz31_⟩ := Kd.R_celln 0 HO_5.out (x27_2 : Int) (of_decide_eq_true (by first |  (with_reducible assumption)|  assumption)) (of_decide_eq_true (by first |  (with_reducible assumption)|  assumption)); have HP31 := Kd.R_putg HO_5.out (x27_2 : Int) t239)|  ((with_reducible refine gate_store (t := 58) (p := 49) rfl ?_); refine store_event (t := 58) (p := 49) (v := ?vo_w32) (w1 := (wr.setCell ⟨go29, (x27_2 : Int).toNat, none⟩ (.int .u32 t239))) ?hg ?ho ?hn ?hr ?_; (case ho => rfl); (case hg => rfl); (case hn => rfl); (case hr => first |  (go_simp; done)|  (go_simp; rfl)|  (go_simp; rw [show ∀ x : Int, IntKind.u32.wrap (IntKind.u8.wrap x) = x % 256 from fun x => (by show (x % 256) % 4294967296 = x % 256; omega)])); intro w32 hw; have hg : wr.grownBy w32 (some go29) := (by rw [hw]; exact HP31.2); have hp_ : Kd.R (Kd.int .u32) 58 w32 w.heap.size (fun k_ => (w.heap.size ≤ k_)) (.slice (some ⟨go29, 0, none⟩) x5_2.length co29) y241 := (by rw [hw, Ny241.out]; exact HP31.1); clear HP31; replace HO_0 := zMk (Kd.V_afterv (v := (.slice (some ⟨go29, 0, none⟩) x5_2.length co29)) (v1 := (.slice (some ⟨go29, 0, none⟩) x5_2.length co29)) (ok := (fun k_ => ((P0_ k_ ∨ P1_ k_) ∨ w.heap.size ≤ k_))) (by exact uV HO_0.out) hg (.inl rfl)); replace HO_1 := zMk (Kd.V_afterv (v := (.slice (some ⟨go29, 0, none⟩) x5_2.length co29)) (v1 := (.slice (some ⟨go29, 0, none⟩) x5_2.length co29)) (ok := (fun k_ => ((P0_ k_ ∨ P1_ k_) ∨ w.heap.size ≤ k_))) (by exact uV HO_1.out) hg (.inl rfl)); replace HO_5 := zMk (hp_); replace HO_25 := zMk (Kd.V_afterv (v := (.slice (some ⟨go29, 0, none⟩) x5_2.length co29)) (v1 := (.slice (some ⟨go29, 0, none⟩) x5_2.length co29)) (ok := (fun k_ => ((P0_ k_ ∨ P1_ k_) ∨ w.heap.size ≤ k_))) (by exact uV HO_25.out) hg (.inl rfl)); replace HB := zMk ((by rw [hw]; exact below_set (HB.out) GB29.out : Below w.heap.size w w32)); clear hg hw hp_))
          go_roundg k2
          case measure => have := HJ4.out; have := HK2.out; omega
          case rel => exact ⟨(y241), (t240), (wrap64 (x27_2 + 1)), (by first | rfl | (simp; done) | (simp [*]; done)), (by first | rfl | (simp; done) | (simp [*]; done)), H', ⟨by have := HJ4.out; have := HK2.out; omega⟩, ⟨by exact uV HO_0.out⟩, ⟨by exact uV HO_1.out⟩, ⟨by exact uR HO_5.out⟩, ⟨by exact uV HO_25.out⟩, ⟨by exact uT HB.out⟩⟩
      · rw [if_neg c17] at H
        have c17b0 : decide (x27_2 < (x0_4.length : Int)) = false := decide_eq_false c17
        clear c17
        by_cases c33 : 0 ≤ (x0_4.length : Int)
        rotate_left
        · rw [if_neg c33] at H; exact absurd H (by simp)
        rw [if_pos c33] at H
        have c33b0 : decide (0 ≤ (x0_4.length : Int)) = true := decide_eq_true c33
        have c33b1 : decide (0 ≤ x0_4.length) = true := decide_eq_true (by omega)
        clear c33
        by_cases c34 : (x0_4.length : Int) < (x5_2.length : Int)
        rotate_left
        · rw [if_neg c34] at H; exact absurd H (by simp)
        rw [if_pos c34] at H
        have c34b0 : decide ((x0_4.length : Int) < (x5_2.length : Int)) = true := decide_eq_true c34
        have c34b1 : decide (x0_4.length < x5_2.length) = true := decide_eq_true (Int.ofNat_lt.mp c34)
        clear c34
        obtain ⟨y242, hy242⟩ : ∃ y_ : List Int, y_ = (x5_2.set ((x0_4.length : Int) : Int).toNat x6_2) := ⟨_, rfl⟩
        replace H : ((n_cut.f y242).bind fun t243 => (some t243)) = some r := by first | (rw [hy242]; with_reducible exact H) | (have H2_ := (zOb _ _).symm.trans H; rw [hy242]; with_reducible exact H2_) | (have H2_ := (zOb _ _).symm.trans H; with_reducible exact H2_) | with_reducible exact H | (rw [hy242]; exact H) | exact H
        have Ny242 := zMk hy242
        clear hy242
        replace H := bnd H
        obtain ⟨t243, A360, H⟩ := H
        have A36 := zMk A360
        clear A360
        obtain rfl := zOi H
        have p35 : 0 ≤ ((x0_4.length : Int) : Int) := of_decide_eq_true (by first | (with_reducible assumption) | assumption)
        have q35 : ((x0_4.length : Int) : Int) < ((x5_2.length : Int) : Int) := of_decide_eq_true (by first | (with_reducible assumption) | assumption)
        obtain ⟨go35, co35, eo35, gb35, gl35, cl35, HG35⟩ := Kd.R_form HO_5.out (by omega)
        (first |  cases eo35|  (injection eo35 with ea_ en_ ec_; (first |  subst ea_|  (injection ea_ with ea_; subst ea_)); subst ec_; clear en_))
        have GB35 := zMk gb35
        have IGB35 := ownGe GB35.out
        have GG35 := zMk HG35
        clear gb35 gl35 HG35
        obtain ⟨hx35_0, hf35_0⟩ := Kd.R_celln 0 HO_5.out ((x0_4.length : Int) : Int) p35 q35
        (try simp only [zTn] at hx35_0 hf35_0)
        replace p35 := eq_true p35
        replace q35 := eq_true q35
        have HP37 := Kd.R_putg HO_5.out ((x0_4.length : Int) : Int) x6_2
        go_wp2_with (first |  ((with_reducible refine gate_store (t := 58) (p := 55) rfl ?_); refine store_event (t := 58) (p := 55) (v := ?vo_w38) (w1 := (wr.setCell ⟨go35, x0_4.length, none⟩ (.int .u32 x6_2))) ?hg ?ho ?hn ?hr ?_; (case ho => rfl); (case hg => rfl); (case hn => rfl); (case hr => first |  (go_simp; done)|  (go_simp; rfl)|  (go_simp; rw [show ∀ x : Int, IntKind.u32.wrap (IntKind.u8.wrap x) = x % 256 from fun x => (by show (x % 256) % 4294967296 = x % 256; omega)])); intro w38 hw; have hg : wr.grownBy w38 (some go35) := (by rw [hw]; exact HP37.2); have hp_ : Kd.R (Kd.int .u32) 58 w38 w.heap.size (fun k_ => (w.heap.size ≤ k_)) (.slice (some ⟨go35, 0, none⟩) x5_2.length co35) y242 := (by rw [hw, Ny242.out]; exact HP37.1); clear HP37; replace HO_0 := zMk (Kd.V_afterv (v := (.slice (some ⟨go35, 0, none⟩) x5_2.length co35)) (v1 := (.slice (some ⟨go35, 0, none⟩) x5_2.length co35)) (ok := (fun k_ => ((P0_ k_ ∨ P1_ k_) ∨ w.heap.size ≤ k_))) (by exact uV HO_0.out) hg (.inl rfl)); replace HO_1 := zMk (Kd.V_afterv (v := (.slice (some ⟨go35, 0, none⟩) x5_2.length co35)) (v1 := (.slice (some ⟨go35, 0, none⟩) x5_2.length co35)) (ok := (fun k_ => ((P0_ k_ ∨ P1_ k_) ∨ w.heap.size ≤ k_))) (by exact uV HO_1.out) hg (.inl rfl)); replace HO_5 := zMk (hp_); replace HO_25 := zMk (Kd.V_afterv (v := (.slice (some ⟨go35, 0, none⟩) x5_2.length co35)) (v1 := (.slice (some ⟨go35, 0, none⟩) x5_2.length co35)) (ok := (fun k_ => ((P0_ k_ ∨ P1_ k_) ∨ w.heap.size ≤ k_))) (by exact uV HO_25.out) hg (.inl rfl)); replace HB := zMk ((by rw [hw]; exact below_set (HB.out) GB35.out : Below w.heap.size w w38)); clear hg hw hp_)|  ((with_reducible refine gate_callee (f := 56) rfl ?_); refine goesL_ (some 57) rfl rfl Tryd.func56 (by kernel_rfl) rfl #[.slice (some ⟨go35, 0, none⟩) y242.length co35] rfl (by (try simp only [zMa, zMc, zMn]); first |  done|  (rw [show y242.length = x5_2.length from (zRr HO_5.out).1.symm] <;> rfl)|  rfl|  (simp only [zLd, zLt]; rfl)) ?_; (with_reducible refine (n_cut.calls (fun k_ => some k_ = (.slice (some ⟨go35, 0, none⟩) x5_2.length co35 : Value).ownBlock) _ _ y242 t243 _ ?side1 A36.out).mono ?_); (case side1 => rw [show y242.length = x5_2.length from (zRr HO_5.out).1.symm]; exact Kd.R_V (Kd.R_tight rfl (HO_5.out))); rintro e w39 ⟨v244, rfl, ho0, hb⟩; refine ⟨_, rfl, ?_⟩; replace HO_0 := zMk (zVb (by exact uV HO_0.out) hb); replace HO_1 := zMk (zVb (by exact uV HO_1.out) hb); replace HO_25 := zMk (zVb (by exact uV HO_25.out) hb); have HO245 := zMk (zVl (zVm (ok' := fun k_ => ((P0_ k_ ∨ P1_ k_) ∨ w.heap.size ≤ k_)) ho0 (fun k_ hk_ => Or.elim hk_ (fun hs_ => (.inr (((HO_5.out).1 k_ hs_.symm)))) (fun hn_ => (.inr (Nat.le_trans (zBs (by exact uT HB.out)) hn_))))) (zBs (by exact uT HB.out))); replace HO_5 := zMk (zRb (by exact uR HO_5.out) hb); replace HB := zMk (zBt (by exact uT HB.out) hb); (try clear hb); (try clear hb2); (try clear hk); (try clear hi); (try clear ho0)))
        go_ret
        exact ⟨_, by first | rfl | (simp [errW_none, errW_some] <;> rfl) | (simp only [← hji11]; first | rfl | (simp [errW_none, errW_some] <;> rfl)) | (simp [*, errW_none, errW_some] <;> rfl), by exact uV HO245.out, by exact uT HB.out⟩
    · rw [if_neg c12] at H
      exact absurd H (by simp)


def bits_Sub32.f (a0 : Int) (a1 : Int) (a2 : Int) : Option (Int × Int) := some ((((a0 - a1) % 4294967296) - a2) % 4294967296, (Go.bits .or .u32 (Go.bits .and .u32 (Go.bits .xor .u32 4294967295 a0) a1) (Go.bits .and .u32 (Go.bits .xor .u32 4294967295 (Go.bits .xor .u32 a0 a1)) ((((a0 - a1) % 4294967296) - a2) % 4294967296))) / 2147483648)
set_option maxHeartbeats 8000000 in
set_option maxRecDepth 100000 in
theorem bits_Sub32.calls (a0 : Int) (a1 : Int) (a2 : Int) (r1 : Int) (r2 : Int) (w : World) (h : bits_Sub32.f a0 a1 a2 = some (r1, r2)) :
    Calls Tryd.prog 80 #[.int .u32 a0, .int .u32 a1, .int .u32 a2] w fun e w' => e = .returned (.tuple #[.int .u32 r1, .int .u32 r2]) ∧ Drawn0 w w' := by
  have H : (some ((((a0 - a1) % 4294967296) - a2) % 4294967296, (Go.bits .or .u32 (Go.bits .and .u32 (Go.bits .xor .u32 4294967295 a0) a1) (Go.bits .and .u32 (Go.bits .xor .u32 4294967295 (Go.bits .xor .u32 a0 a1)) ((((a0 - a1) % 4294967296) - a2) % 4294967296))) / 2147483648)) = some (r1, r2) := h
  clear h
  simp only [Option.some.injEq, Prod.mk.injEq] at H
  obtain ⟨rfl, rfl⟩ := H
  go_enter Tryd.func80, Tryd.ntmps80
  go_wp2
  go_ret2
  exact ⟨by first | rfl | (simp; done) | (simp [*]; done), by repeat (first | exact Drawn0.refl _ | apply Drawn0.step)⟩


def n_less.l0 : Nat → List Int → List Int → Int → Int → Int → Option (Int × List Int)
  | 0, _, _, _, _, _ => none
  | k + 1, x0, x1, x5, x9, x10 => if x10 < x9 then (if x10 < (x1.length : Int) then (if 0 ≤ x10 then (if x10 < (x0.length : Int) then ((bits_Sub32.f (rd x0 x10) (rd x1 x10) x5).bind fun bt144 => (n_less.l0 k (x0.set (x10 : Int).toNat bt144.1) x1 bt144.2 x9 (wrap64 (x10 + 1)))) else (none)) else (none)) else (if 0 ≤ x10 then (if x10 < (x0.length : Int) then ((bits_Sub32.f (rd x0 x10) 0 x5).bind fun bt148 => (n_less.l0 k (x0.set (x10 : Int).toNat bt148.1) x1 bt148.2 x9 (wrap64 (x10 + 1)))) else (none)) else (none))) else (some (x5, x0))
def n_less.f (k : Nat) (l0 : List Int) (l1 : List Int) : Option (Int × List Int) := n_less.l0 k l0 l1 0 (l0.length : Int) 0
set_option maxHeartbeats 8000000 in
set_option maxRecDepth 100000 in
theorem n_less.calls (k : Nat) (P0_ : Nat → Prop) (u9000_ : Value) (l0 : List Int) (A1 : Option Addr) (c1 : Nat) (l1 : List Int) (r1 : Int) (r2 : List Int) (w0 w : World) (hB : Below w0.heap.size w0 w) (ho0 : Kd.R (Kd.int .u32) 58 w w0.heap.size P0_ u9000_ l0) (hr1 : ∀ W_, Kept w W_ (fun k_ => P0_ k_) → Kd.C (Kd.int .u32) W_ A1 l1.length l1) (hc1 : l1.length ≤ c1) (h : n_less.f k l0 l1 = some (r1, r2)) :
    Calls Tryd.prog 61 #[u9000_, .slice A1 l1.length c1] w fun e w' => e = .returned (.int .u32 r1) ∧ Kd.R (Kd.int .u32) 58 w' w0.heap.size (fun k_ => (P0_ k_ ∨ w.heap.size ≤ k_)) u9000_ r2 ∧ Below w0.heap.size w0 w' ∧ Kept w w' (fun k_ => P0_ k_) := by
  have HO0 := zMk (show Kd.R (Kd.int .u32) 58 w w0.heap.size (fun k_ => (P0_ k_ ∨ w.heap.size ≤ k_)) u9000_ l0 from zRm ho0 (fun k_ hk => (.inl hk)))
  have HR1 := zMk hr1
  have HC1 := zMk hc1
  clear hr1 hc1
  have HK := zMk (Kept.refl w (fun k_ => P0_ k_))
  have HW0 := zMk hB.size
  have HB := zMk hB
  clear hB
  have H : (n_less.l0 k l0 l1 0 (l0.length : Int) 0) = some (r1, r2) := h
  clear h
  have H' := zMk H
  clear H
  obtain ⟨Ao3, co3, eo3⟩ := zRs HO0.out
  subst eo3
  go_enter Tryd.func61, Tryd.ntmps61
  go_wp2
  go_loopg [5, 10] k (fun kq v5 v10 w' => ∃ (x0_1 : List Int) (x5_1 : Int) (x10_1 : Int), v5 = .int .u32 x5_1 ∧ v10 = .int .i64 x10_1 ∧ Aside0 (n_less.l0 kq x0_1 l1 x5_1 (l0.length : Int) x10_1 = some (r1, r2)) ∧ Aside0 (kq ≤ k) ∧ Aside0 (Kd.R (Kd.int .u32) 58 w' w0.heap.size (fun k_ => (P0_ k_ ∨ w.heap.size ≤ k_)) (.slice Ao3 l0.length co3) x0_1) ∧ Aside0 (Kept w w' (fun k_ => P0_ k_)) ∧ Aside0 (Below w0.heap.size w0 w'))
  case atStart => exact ⟨(l0), (0), (0), (by first | rfl | (simp; done) | (simp [*]; done)), (by first | rfl | (simp; done) | (simp [*]; done)), H', ⟨Nat.le_refl _⟩, ⟨by exact uR HO0.out⟩, ⟨by repeat (first | (with_reducible first | exact HK.out | apply Kept.alloc | apply Kept.drewN | apply Kept.drew) | exact HK.out)⟩, ⟨by exact uT HB.out⟩⟩
  clear H'
  obtain ⟨x0_1, x5_1, x10_1, rfl, rfl, HA, HK1, HO_0, HK, HB⟩ := hrel
  have hl0_1 := (zRr HO_0.out).1
  rw [hl0_1] at HO_0
  (try simp only [hl0_1])
  rcases gk with _ | k1
  · exact absurd HA.out (by simp [n_less.l0])
  have H := HA.out
  clear HA
  simp only [n_less.l0] at H
  by_cases c4 : x10_1 < (l0.length : Int)
  · rw [if_pos c4] at H
    have c4b0 : decide (x10_1 < (l0.length : Int)) = true := decide_eq_true c4
    (try (have c4b0l := c4b0; simp only [hl0_1] at c4b0l))
    clear c4
    by_cases c5 : x10_1 < (l1.length : Int)
    · rw [if_pos c5] at H
      have c5b0 : decide (x10_1 < (l1.length : Int)) = true := decide_eq_true c5
      (try (have c5b0l := c5b0; simp only [hl0_1] at c5b0l))
      clear c5
      by_cases c6 : 0 ≤ x10_1
      rotate_left
      · rw [if_neg c6] at H; exact absurd H (by simp)
      rw [if_pos c6] at H
      have c6b0 : decide (0 ≤ x10_1) = true := decide_eq_true c6
      (try (have c6b0l := c6b0; simp only [hl0_1] at c6b0l))
      clear c6
      by_cases c7 : x10_1 < (x0_1.length : Int)
      rotate_left
      · rw [if_neg c7] at H; exact absurd H (by simp)
      rw [if_pos c7] at H
      have c7b0 : decide (x10_1 < (x0_1.length : Int)) = true := decide_eq_true c7
      (try (have c7b0l := c7b0; simp only [hl0_1] at c7b0l))
      clear c7
      replace H := bnd H
      obtain ⟨⟨t144, t145⟩, A80, H⟩ := H
      replace H : (n_less.l0 k1 (x0_1.set (x10_1 : Int).toNat t144) l1 t145 (l0.length : Int) (wrap64 (x10_1 + 1))) = some (r1, r2) := H
      have A8 := zMk A80
      clear A80
      obtain ⟨y146, hy146⟩ : ∃ y_ : List Int, y_ = (x0_1.set (x10_1 : Int).toNat t144) := ⟨_, rfl⟩
      replace H : (n_less.l0 k1 y146 l1 t145 (l0.length : Int) (wrap64 (x10_1 + 1))) = some (r1, r2) := by first | (rw [hy146]; with_reducible exact H) | (have H2_ := (zOb _ _).symm.trans H; rw [hy146]; with_reducible exact H2_) | (have H2_ := (zOb _ _).symm.trans H; with_reducible exact H2_) | with_reducible exact H | (rw [hy146]; exact H) | exact H
      have Ny146 := zMk hy146
      clear hy146
      have H' := zMk H
      clear H
      have p142 : 0 ≤ (x10_1 : Int) := of_decide_eq_true (by first | (with_reducible assumption) | assumption)
      have q142 : x10_1 < (l1.length : Int) := of_decide_eq_true (by first | (with_reducible assumption) | assumption)
      obtain ⟨ad142, e142, hx142_0⟩ := zAi (Kd.C_kept_now HR1.out HK.out) x10_1 p142 q142
      cases e142
      replace p142 := eq_true p142
      replace q142 := eq_true q142
      have p143 : 0 ≤ (x10_1 : Int) := of_decide_eq_true (by first | (with_reducible assumption) | assumption)
      have q143 : x10_1 < (x0_1.length : Int) := of_decide_eq_true (by first | (with_reducible assumption) | assumption)
      obtain ⟨ad143, e143, hx143_0⟩ := zAi (zRr HO_0.out).2.2 x10_1 p143 q143
      cases e143
      replace p143 := eq_true p143
      replace q143 := eq_true q143
      go_wp2_with (first |  ((with_reducible refine gate_callee (f := 80) rfl ?_); refine goesL_ (some 30) rfl rfl Tryd.func80 (by kernel_rfl) rfl #[.int .u32 (rd x0_1 x10_1), .int .u32 (rd l1 x10_1), .int .u32 x5_1] rfl (by (try simp only [zMa, zMc, zMn]); first |  done|  rfl|  (simp only [zLd, zLt]; rfl)) ?_; (with_reducible refine (bits_Sub32.calls (rd x0_1 x10_1) (rd l1 x10_1) x5_1 t144 t145 _ A8.out).mono ?_); rintro e w' ⟨rfl, ⟨nd, rfl⟩⟩; refine ⟨_, rfl, ?_⟩; (try (rw [drewN_self wr]; generalize hq_ : World.drewN wr _ = wr; have n0_ : Aside0 (Kd.R (Kd.int .u32) 58 wr w0.heap.size (fun k_ => (P0_ k_ ∨ w.heap.size ≤ k_)) (.slice (some ad143) x0_1.length co3) x0_1) := ⟨by rw [← hq_]; exact (by exact uR HO_0.out)⟩; have n1_ : Aside0 (Kept w wr (fun k_ => P0_ k_)) := ⟨by rw [← hq_]; exact (by repeat (first |  (with_reducible first |  exact HK.out|  apply Kept.alloc|  apply Kept.drewN|  apply Kept.drew)|  exact HK.out))⟩; have n2_ : Aside0 (Below w0.heap.size w0 wr) := ⟨by rw [← hq_]; exact (by exact uT HB.out)⟩; clear HO_0 HK HB hq_; have HO_0 := n0_; have HK := n1_; have HB := n2_; clear n0_ n1_ n2_)); have p9 : 0 ≤ (x10_1 : Int) := of_decide_eq_true (by first |  (with_reducible assumption)|  assumption); have q9 : (x10_1 : Int) < ((x0_1.length : Int) : Int) := of_decide_eq_true (by first |  (with_reducible assumption)|  assumption); obtain ⟨go9, co9, eo9, gb9, gl9, cl9, HG9⟩ := Kd.R_form HO_0.out (by omega); (first |  cases eo9|  (injection eo9 with ea_ en_ ec_; (first |  subst ea_|  (injection ea_ with ea_; subst ea_)); subst ec_; clear en_)); have GB9 := zMk gb9; have IGB9 := ownGe GB9.out; have GG9 := zMk HG9; clear gb9 gl9 HG9; have HMgo9 := zMk (show (P0_ go9 ∨ w.heap.size ≤ go9) from (HO_0.out.1 _ rfl)); (first |  simp only [add_plain] at hx143_0|  skip); obtain ⟨hx9_0, hf9_0⟩ := Kd.R_celln 0 HO_0.out (x10_1 : Int) p9 q9; replace p9 := eq_true p9; replace q9 := eq_true q9; obtain ⟨hy10_, hz10_⟩ := Kd.R_celln 0 HO_0.out (x10_1 : Int) (of_decide_eq_true (by first |  (with_reducible assumption)|  assumption)) (of_decide_eq_true (by first |  (with_reducible assumption)|  assumption)); have HP10 := Kd.R_putg HO_0.out (x10_1 : Int) t144)|  ((with_reducible refine gate_store (t := 58) (p := 33) rfl ?_); refine store_event (t := 58) (p := 33) (v := ?vo_w11) (w1 := (wr.setCell ⟨go9, (x10_1 : Int).toNat, none⟩ (.int .u32 t144))) ?hg ?ho ?hn ?hr ?_; (case ho => rfl); (case hg => rfl); (case hn => rfl); (case hr => first |  (go_simp; done)|  (go_simp; rfl)|  (go_simp; rw [show ∀ x : Int, IntKind.u32.wrap (IntKind.u8.wrap x) = x % 256 from fun x => (by show (x % 256) % 4294967296 = x % 256; omega)])); intro w11 hw; have hg : wr.grownBy w11 (some go9) := (by rw [hw]; exact HP10.2); have hp_ : Kd.R (Kd.int .u32) 58 w11 w0.heap.size (fun k_ => (P0_ k_ ∨ w.heap.size ≤ k_)) (.slice (some ⟨go9, 0, none⟩) x0_1.length co3) y146 := (by rw [hw, Ny146.out]; exact HP10.1); clear HP10; replace HB := zMk ((by rw [hw]; exact below_set (HB.out) GB9.out : Below w0.heap.size w0 w11)); replace HK := zMk (Kept.of_grown (S := (fun k_ => P0_ k_)) hg (by repeat (first |  (with_reducible first |  exact HK.out|  apply Kept.alloc|  apply Kept.drewN|  apply Kept.drew)|  exact HK.out)) (fun k_ e_ => (HO_0.out.1 k_ e_))); replace HO_0 := zMk (hp_); clear hg hw hp_))
      (try simp only [← hl0_1])
      go_roundg k1
      case measure => have := HK1.out; omega
      case rel => exact ⟨(y146), (t145), (wrap64 (x10_1 + 1)), (by first | rfl | (simp; done) | (simp [*]; done)), (by first | rfl | (simp; done) | (simp [*]; done)), H', ⟨by have := HK1.out; omega⟩, ⟨by (try simp only [hl0_1]); exact uR HO_0.out⟩, ⟨by repeat (first | (with_reducible first | exact HK.out | apply Kept.alloc | apply Kept.drewN | apply Kept.drew) | exact HK.out)⟩, ⟨by exact uT HB.out⟩⟩
    · rw [if_neg c5] at H
      have c5b0 : decide (x10_1 < (l1.length : Int)) = false := decide_eq_false c5
      (try (have c5b0l := c5b0; simp only [hl0_1] at c5b0l))
      clear c5
      by_cases c12 : 0 ≤ x10_1
      rotate_left
      · rw [if_neg c12] at H; exact absurd H (by simp)
      rw [if_pos c12] at H
      have c12b0 : decide (0 ≤ x10_1) = true := decide_eq_true c12
      (try (have c12b0l := c12b0; simp only [hl0_1] at c12b0l))
      clear c12
      by_cases c13 : x10_1 < (x0_1.length : Int)
      rotate_left
      · rw [if_neg c13] at H; exact absurd H (by simp)
      rw [if_pos c13] at H
      have c13b0 : decide (x10_1 < (x0_1.length : Int)) = true := decide_eq_true c13
      (try (have c13b0l := c13b0; simp only [hl0_1] at c13b0l))
      clear c13
      replace H := bnd H
      obtain ⟨⟨t148, t149⟩, A140, H⟩ := H
      replace H : (n_less.l0 k1 (x0_1.set (x10_1 : Int).toNat t148) l1 t149 (l0.length : Int) (wrap64 (x10_1 + 1))) = some (r1, r2) := H
      have A14 := zMk A140
      clear A140
      obtain ⟨y150, hy150⟩ : ∃ y_ : List Int, y_ = (x0_1.set (x10_1 : Int).toNat t148) := ⟨_, rfl⟩
      replace H : (n_less.l0 k1 y150 l1 t149 (l0.length : Int) (wrap64 (x10_1 + 1))) = some (r1, r2) := by first | (rw [hy150]; with_reducible exact H) | (have H2_ := (zOb _ _).symm.trans H; rw [hy150]; with_reducible exact H2_) | (have H2_ := (zOb _ _).symm.trans H; with_reducible exact H2_) | with_reducible exact H | (rw [hy150]; exact H) | exact H
      have Ny150 := zMk hy150
      clear hy150
      have H' := zMk H
      clear H
      have p147 : 0 ≤ (x10_1 : Int) := of_decide_eq_true (by first | (with_reducible assumption) | assumption)
      have q147 : x10_1 < (x0_1.length : Int) := of_decide_eq_true (by first | (with_reducible assumption) | assumption)
      obtain ⟨ad147, e147, hx147_0⟩ := zAi (zRr HO_0.out).2.2 x10_1 p147 q147
      cases e147
      replace p147 := eq_true p147
      replace q147 := eq_true q147
      go_wp2_with (first |  ((with_reducible refine gate_callee (f := 80) rfl ?_); refine goesL_ (some 30) rfl rfl Tryd.func80 (by kernel_rfl) rfl #[.int .u32 (rd x0_1 x10_1), .int .u32 0, .int .u32 x5_1] rfl (by (try simp only [zMa, zMc, zMn]); first |  done|  rfl|  (simp only [zLd, zLt]; rfl)) ?_; (with_reducible refine (bits_Sub32.calls (rd x0_1 x10_1) 0 x5_1 t148 t149 _ A14.out).mono ?_); rintro e w' ⟨rfl, ⟨nd, rfl⟩⟩; refine ⟨_, rfl, ?_⟩; (try (rw [drewN_self wr]; generalize hq_ : World.drewN wr _ = wr; have n0_ : Aside0 (Kd.R (Kd.int .u32) 58 wr w0.heap.size (fun k_ => (P0_ k_ ∨ w.heap.size ≤ k_)) (.slice (some ad147) x0_1.length co3) x0_1) := ⟨by rw [← hq_]; exact (by exact uR HO_0.out)⟩; have n1_ : Aside0 (Kept w wr (fun k_ => P0_ k_)) := ⟨by rw [← hq_]; exact (by repeat (first |  (with_reducible first |  exact HK.out|  apply Kept.alloc|  apply Kept.drewN|  apply Kept.drew)|  exact HK.out))⟩; have n2_ : Aside0 (Below w0.heap.size w0 wr) := ⟨by rw [← hq_]; exact (by exact uT HB.out)⟩; clear HO_0 HK HB hq_; have HO_0 := n0_; have HK := n1_; have HB := n2_; clear n0_ n1_ n2_)); have p15 : 0 ≤ (x10_1 : Int) := of_decide_eq_true (by first |  (with_reducible assumption)|  assumption); have q15 : (x10_1 : Int) < ((x0_1.length : Int) : Int) := of_decide_eq_true (by first |  (with_reducible assumption)|  assumption); obtain ⟨go15, co15, eo15, gb15, gl15, cl15, HG15⟩ := Kd.R_form HO_0.out (by omega); (first |  cases eo15|  (injection eo15 with ea_ en_ ec_; (first |  subst ea_|  (injection ea_ with ea_; subst ea_)); subst ec_; clear en_)); have GB15 := zMk gb15; have IGB15 := ownGe GB15.out; have GG15 := zMk HG15; clear gb15 gl15 HG15; have HMgo15 := zMk (show (P0_ go15 ∨ w.heap.size ≤ go15) from (HO_0.out.1 _ rfl)); (first |  simp only [add_plain] at hx147_0|  skip); obtain ⟨hx15_0, hf15_0⟩ := Kd.R_celln 0 HO_0.out (x10_1 : Int) p15 q15; replace p15 := eq_true p15; replace q15 := eq_true q15; obtain ⟨hy16_, hz16_⟩ := Kd.R_celln 0 HO_0.out (x10_1 : Int) (of_decide_eq_true (by first |  (with_reducible assumption)|  assumption)) (of_decide_eq_true (by first |  (with_reducible assumption)|  assumption)); have HP16 := Kd.R_putg HO_0.out (x10_1 : Int) t148)|  ((with_reducible refine gate_store (t := 58) (p := 33) rfl ?_); refine store_event (t := 58) (p := 33) (v := ?vo_w17) (w1 := (wr.setCell ⟨go15, (x10_1 : Int).toNat, none⟩ (.int .u32 t148))) ?hg ?ho ?hn ?hr ?_; (case ho => rfl); (case hg => rfl); (case hn => rfl); (case hr => first |  (go_simp; done)|  (go_simp; rfl)|  (go_simp; rw [show ∀ x : Int, IntKind.u32.wrap (IntKind.u8.wrap x) = x % 256 from fun x => (by show (x % 256) % 4294967296 = x % 256; omega)])); intro w17 hw; have hg : wr.grownBy w17 (some go15) := (by rw [hw]; exact HP16.2); have hp_ : Kd.R (Kd.int .u32) 58 w17 w0.heap.size (fun k_ => (P0_ k_ ∨ w.heap.size ≤ k_)) (.slice (some ⟨go15, 0, none⟩) x0_1.length co3) y150 := (by rw [hw, Ny150.out]; exact HP16.1); clear HP16; replace HB := zMk ((by rw [hw]; exact below_set (HB.out) GB15.out : Below w0.heap.size w0 w17)); replace HK := zMk (Kept.of_grown (S := (fun k_ => P0_ k_)) hg (by repeat (first |  (with_reducible first |  exact HK.out|  apply Kept.alloc|  apply Kept.drewN|  apply Kept.drew)|  exact HK.out)) (fun k_ e_ => (HO_0.out.1 k_ e_))); replace HO_0 := zMk (hp_); clear hg hw hp_))
      (try simp only [← hl0_1])
      go_roundg k1
      case measure => have := HK1.out; omega
      case rel => exact ⟨(y150), (t149), (wrap64 (x10_1 + 1)), (by first | rfl | (simp; done) | (simp [*]; done)), (by first | rfl | (simp; done) | (simp [*]; done)), H', ⟨by have := HK1.out; omega⟩, ⟨by (try simp only [hl0_1]); exact uR HO_0.out⟩, ⟨by repeat (first | (with_reducible first | exact HK.out | apply Kept.alloc | apply Kept.drewN | apply Kept.drew) | exact HK.out)⟩, ⟨by exact uT HB.out⟩⟩
  · rw [if_neg c4] at H
    have c4b0 : decide (x10_1 < (l0.length : Int)) = false := decide_eq_false c4
    (try (have c4b0l := c4b0; simp only [hl0_1] at c4b0l))
    clear c4
    simp only [Option.some.injEq, Prod.mk.injEq] at H
    obtain ⟨rfl, rfl⟩ := H
    go_wp2
    go_ret
    exact ⟨by first | rfl | (simp [errW_none, errW_some] <;> rfl) | (simp [*, errW_none, errW_some] <;> rfl), (by first | exact (by exact uR HO_0.out) | (simp only [hl0_1]; exact (by exact uR HO_0.out))), by exact uT HB.out, by repeat (first | (with_reducible first | exact HK.out | apply Kept.alloc | apply Kept.drewN | apply Kept.drew) | exact HK.out)⟩


def n_Sub.f (k : Nat) (l0 : List Int) (l1 : List Int) : Option (List Int × Int) := (n_Cmp.f l0 l1).bind fun t246 => (if t246 < 0 then (some (([] : List Int), 17)) else ((n_Norm.f l0).bind fun t247 => ((n_cut.f l1).bind fun t250 => ((n_less.f k t247 t250).bind fun bt253 => ((n_cut.f bt253.2).bind fun t255 => (some (t255, 0)))))))
set_option maxHeartbeats 8000000 in
set_option maxRecDepth 100000 in
theorem n_Sub.calls (k : Nat) (A0 : Option Addr) (c0 : Nat) (l0 : List Int) (P1_ : Nat → Prop) (A1 : Option Addr) (c1 : Nat) (l1 : List Int) (r1 : List Int) (r2 : Int) (w : World) (hr0 : Kd.C (Kd.int .u32) w A0 l0.length l0) (hc0 : l0.length ≤ c0) (hs1 : Kd.V (Kd.int .u32) 58 w w.heap.size (fun k_ => P1_ k_) (.slice A1 l1.length c1) l1) (h : n_Sub.f k l0 l1 = some (r1, r2)) :
    Calls Tryd.prog 35 #[.slice A0 l0.length c0, .slice A1 l1.length c1] w fun e w' => ∃ v0_ : Value, e = .returned (.tuple #[v0_, .int .i64 r2]) ∧ Kd.V (Kd.int .u32) 58 w' w.heap.size (fun k_ => (P1_ k_ ∨ w.heap.size ≤ k_)) v0_ r1 ∧ Below w.heap.size w w' := by
  have HR0 := zMk hr0
  have HC0 := zMk hc0
  clear hr0 hc0
  have HO1 := zMk (show Kd.V (Kd.int .u32) 58 w w.heap.size (fun k_ => (P1_ k_ ∨ w.heap.size ≤ k_)) (.slice A1 l1.length c1) l1 from zVm hs1 (fun k_ hk => .inl hk))
  have HB := zMk (Below.refl w.heap.size w)
  have H : ((n_Cmp.f l0 l1).bind fun t246 => (if t246 < 0 then (some (([] : List Int), 17)) else ((n_Norm.f l0).bind fun t247 => ((n_cut.f l1).bind fun t250 => ((n_less.f k t247 t250).bind fun bt253 => ((n_cut.f bt253.2).bind fun t255 => (some (t255, 0)))))))) = some (r1, r2) := h
  clear h
  replace H := bnd H
  obtain ⟨t246, A30, H⟩ := H
  have A3 := zMk A30
  clear A30
  by_cases c4 : t246 < 0
  · rw [if_pos c4] at H
    have c4b0 : decide (t246 < 0) = true := decide_eq_true c4
    clear c4
    simp only [Option.some.injEq, Prod.mk.injEq] at H
    obtain ⟨rfl, rfl⟩ := H
    go_enter Tryd.func35, Tryd.ntmps35
    go_wp2_with (first |  ((with_reducible refine gate_callee (f := 49) rfl ?_); refine goesL_ (some 9) rfl rfl Tryd.func49 (by kernel_rfl) rfl #[.slice A0 l0.length c0, .slice A1 l1.length c1] rfl (by (try simp only [zMa, zMc, zMn]); first |  done|  rfl|  (simp only [zLd, zLt]; rfl)) ?_; (with_reducible refine (n_Cmp.calls _ _ l0 _ _ l1 t246 _ ?side1 ?side2 ?side3 ?side4 A3.out).mono ?_); (case side1 => repeat (first |  exact HR0.out|  (with_reducible refine zCa ?_ _)|  (with_reducible refine zCn ?_ _)|  (with_reducible refine zCd ?_))); (case side2 => exact HC0.out); (case side3 => exact uC (zVr HO1.out).2.2); (case side4 => exact (zVr HO1.out).2.1); rintro e w5 ⟨rfl, hb⟩; refine ⟨_, rfl, ?_⟩; replace HO1 := zMk (zVb (by exact uV HO1.out) hb); replace HB := zMk (zBt (by exact uT HB.out) hb); (try clear hb); (try clear hb2); (try clear hk); (try clear hi)))
    go_ret2
    exact ⟨_, by first | rfl | (simp [errW_none, errW_some] <;> rfl) | (simp [*, errW_none, errW_some] <;> rfl), (by first | exact Kd.V_nil _ _ _ _ _ | exact zVm (Kd.R_V (by first | exact Kd.R_nil _ _ _ _ _ | exact Kd.N_nil _ _ _ _ _ | exact Kd.V_nil _ _ _ _ _ | exact Kd.Q_nil _ _ _ _ _ | exact Kd.S_nil _ _ _ _ _)) (fun k_ hk => by first | exact ⟨(.inr (hk.1)), hk.2⟩ | exact (.inr (hk)))), by exact uT HB.out⟩
  · rw [if_neg c4] at H
    have c4b0 : decide (t246 < 0) = false := decide_eq_false c4
    clear c4
    replace H := bnd H
    obtain ⟨t247, A60, H⟩ := H
    have A6 := zMk A60
    clear A60
    replace H := bnd H
    obtain ⟨t250, A70, H⟩ := H
    have A7 := zMk A70
    clear A70
    replace H := bnd H
    obtain ⟨⟨t253, t254⟩, A80, H⟩ := H
    replace H : ((n_cut.f t254).bind fun t255 => (some (t255, 0))) = some (r1, r2) := H
    have A8 := zMk A80
    clear A80
    replace H := bnd H
    obtain ⟨t255, A90, H⟩ := H
    have A9 := zMk A90
    clear A90
    simp only [Option.some.injEq, Prod.mk.injEq] at H
    obtain ⟨rfl, rfl⟩ := H
    go_enter Tryd.func35, Tryd.ntmps35
    go_wp2_with (first |  ((with_reducible refine gate_callee (f := 49) rfl ?_); refine goesL_ (some 9) rfl rfl Tryd.func49 (by kernel_rfl) rfl #[.slice A0 l0.length c0, .slice A1 l1.length c1] rfl (by (try simp only [zMa, zMc, zMn]); first |  done|  rfl|  (simp only [zLd, zLt]; rfl)) ?_; (with_reducible refine (n_Cmp.calls _ _ l0 _ _ l1 t246 _ ?side1 ?side2 ?side3 ?side4 A3.out).mono ?_); (case side1 => repeat (first |  exact HR0.out|  (with_reducible refine zCa ?_ _)|  (with_reducible refine zCn ?_ _)|  (with_reducible refine zCd ?_))); (case side2 => exact HC0.out); (case side3 => exact uC (zVr HO1.out).2.2); (case side4 => exact (zVr HO1.out).2.1); rintro e w10 ⟨rfl, hb⟩; refine ⟨_, rfl, ?_⟩; replace HO1 := zMk (zVb (by exact uV HO1.out) hb); replace HB := zMk (zBt (by exact uT HB.out) hb); (try clear hb); (try clear hb2); (try clear hk); (try clear hi))|  ((with_reducible refine gate_callee (f := 57) rfl ?_); refine goesL_ (some 12) rfl rfl Tryd.func57 (by kernel_rfl) rfl #[.slice A0 l0.length c0] rfl (by (try simp only [zMa, zMc, zMn]); first |  done|  rfl|  (simp only [zLd, zLt]; rfl)) ?_; (with_reducible refine (n_Norm.calls _ _ l0 t247 _ ?side1 ?side2 A6.out).mono ?_); (case side1 => repeat (first |  exact (Kd.C_below HR0.out HB.out)|  (with_reducible refine zCa ?_ _)|  (with_reducible refine zCn ?_ _)|  (with_reducible refine zCd ?_))); (case side2 => exact HC0.out); rintro e w11 ⟨v248, rfl, ho0, hb⟩; refine ⟨_, rfl, ?_⟩; replace HO1 := zMk (zVe (by exact uV HO1.out) (zRz ho0) hb); have HO249 := zMk (zRl (Kd.R_newM (M := fun k_ => (w.heap.size ≤ k_)) ho0 (zBs (by exact uT HB.out)) (fun k_ h_ => h_)) (zBs (by exact uT HB.out))); replace HB := zMk (zBt (by exact uT HB.out) hb); (try clear hb); (try clear hb2); (try clear hk); (try clear hi); (try clear ho0))|  ((with_reducible refine gate_callee (f := 56) rfl ?_); refine goesL_ (some 15) rfl rfl Tryd.func56 (by kernel_rfl) rfl #[.slice A1 l1.length c1] rfl (by (try simp only [zMa, zMc, zMn]); first |  done|  rfl|  (simp only [zLd, zLt]; rfl)) ?_; (with_reducible refine (n_cut.calls (fun k_ => ((P1_ k_ ∨ w.heap.size ≤ k_) ∧ some k_ ≠ (v248 : Value).ownBlock)) _ _ l1 t250 _ ?side1 A7.out).mono ?_); (case side1 => exact HO1.out); rintro e w12 ⟨v251, rfl, ho0, hb⟩; refine ⟨_, rfl, ?_⟩; replace HO1 := zMk (zVb (by exact uV HO1.out) hb); have HO252 := zMk (zVl (zVm (ok' := fun k_ => (P1_ k_ ∨ w.heap.size ≤ k_) ∧ some k_ ≠ (v248 : Value).ownBlock) ho0 (fun k_ hk_ => ⟨Or.elim hk_ (fun hs_ => hs_.1) (fun hn_ => (.inr (Nat.le_trans (zBs (by exact uT HB.out)) hn_))), Or.elim hk_ (fun hs_ => hs_.2) (fun hn_ => (Kd.fresh' (zRt (by exact uR HO249.out)) k_ hn_))⟩)) (zBs (by exact uT HB.out))); replace HO249 := zMk (zRb (by exact uR HO249.out) hb); replace HB := zMk (zBt (by exact uT HB.out) hb); (try clear hb); (try clear hb2); (try clear hk); (try clear hi); (try clear ho0); obtain ⟨Ao13, co13, eo13⟩ := zRs HO249.out; subst eo13; obtain ⟨Ao14, co14, eo14⟩ := zVs HO252.out; subst eo14)|  ((with_reducible refine gate_callee (f := 61) rfl ?_); refine goesL_ (some 16) rfl rfl Tryd.func61 (by kernel_rfl) rfl #[.slice Ao13 t247.length co13, .slice Ao14 t250.length co14] rfl (by (try simp only [zMa, zMc, zMn]); first |  done|  rfl|  (simp only [zLd, zLt]; rfl)) ?_; (with_reducible refine (n_less.calls k (fun k_ => some k_ = (.slice Ao13 t247.length co13 : Value).ownBlock) (.slice Ao13 t247.length co13) t247 _ _ t250 t253 t254 w _ ?side1 ?side2 ?side3 ?side4 A8.out).mono ?_); (case side1 => exact uT HB.out); (case side2 => exact Kd.R_tight rfl HO249.out); (case side3 => exact Kd.C_kept_ownV (HO252.out) (fun k_ hk_ hs_ => (hk_.2) hs_)); (case side4 => exact (zVr HO252.out).2.1); rintro e w15 ⟨rfl, hy0, hb, hkp⟩; refine ⟨_, rfl, ?_⟩; replace HO1 := zMk (zVm (ok' := fun k_ => (P1_ k_ ∨ w.heap.size ≤ k_) ∧ some k_ ≠ (.slice Ao13 t247.length co13 : Value).ownBlock) (Kd.V_keptB (HO1.out) hkp (fun k_ hk_ hs_ => (hk_.2) hs_)) (fun k_ hk_ => ⟨hk_.1.1, hk_.1.2⟩)); replace HO249 := zMk (Kd.R_reok rfl hy0 (fun k_ e_ => HO249.out.1 k_ e_)); replace HO252 := zMk (zVm (ok' := fun k_ => (P1_ k_ ∨ w.heap.size ≤ k_) ∧ some k_ ≠ (.slice Ao13 t247.length co13 : Value).ownBlock) (Kd.V_keptB (HO252.out) hkp (fun k_ hk_ hs_ => (hk_.2) hs_)) (fun k_ hk_ => ⟨hk_.1.1, hk_.1.2⟩)); replace HB := zMk (hb); (try clear hb); (try clear hkp); (try clear hy0))|  ((with_reducible refine gate_callee (f := 56) rfl ?_); refine goesL_ (some 18) rfl rfl Tryd.func56 (by kernel_rfl) rfl #[.slice Ao13 t254.length co13] rfl (by (try simp only [zMa, zMc, zMn]); first |  done|  (rw [show t254.length = t247.length from (zRr HO249.out).1.symm] <;> rfl)|  rfl|  (simp only [zLd, zLt]; rfl)) ?_; (with_reducible refine (n_cut.calls (fun k_ => some k_ = (.slice Ao13 t247.length co13 : Value).ownBlock) _ _ t254 t255 _ ?side1 A9.out).mono ?_); (case side1 => rw [show t254.length = t247.length from (zRr HO249.out).1.symm]; exact Kd.R_V (Kd.R_tight rfl (HO249.out))); rintro e w16 ⟨v256, rfl, ho0, hb⟩; refine ⟨_, rfl, ?_⟩; replace HO1 := zMk (zVb (by exact uV HO1.out) hb); replace HO252 := zMk (zVb (by exact uV HO252.out) hb); have HO257 := zMk (zVl (zVm (ok' := fun k_ => (P1_ k_ ∨ w.heap.size ≤ k_)) ho0 (fun k_ hk_ => Or.elim hk_ (fun hs_ => (.inr (((HO249.out).1 k_ hs_.symm).1))) (fun hn_ => (.inr (Nat.le_trans (zBs (by exact uT HB.out)) hn_))))) (zBs (by exact uT HB.out))); replace HO249 := zMk (zRb (by exact uR HO249.out) hb); replace HB := zMk (zBt (by exact uT HB.out) hb); (try clear hb); (try clear hb2); (try clear hk); (try clear hi); (try clear ho0)))
    go_ret2
    exact ⟨_, by first | rfl | (simp [errW_none, errW_some] <;> rfl) | (simp [*, errW_none, errW_some] <;> rfl), by exact uV HO257.out, by exact uT HB.out⟩


def integer_signed.f (a0 : Bool) (l1 : List Int) : Option (Bool × List Int) := (n_Norm.f l1).bind fun t259 => (if a0 = true then (some (decide ((t259.length : Int) > 0), t259)) else (some (false, t259)))
set_option maxHeartbeats 8000000 in
set_option maxRecDepth 100000 in
theorem integer_signed.calls (a0 : Bool) (A1 : Option Addr) (c1 : Nat) (l1 : List Int) (r1 : Bool) (r2 : List Int) (w : World) (hr1 : Kd.C (Kd.int .u32) w A1 l1.length l1) (hc1 : l1.length ≤ c1) (h : integer_signed.f a0 l1 = some (r1, r2)) :
    Calls Tryd.prog 36 #[.bool a0, .slice A1 l1.length c1] w fun e w' => ∃ v1_ : Value, e = .returned (.agg #[.bool r1, v1_]) ∧ Kd.R (Kd.int .u32) 58 w' w.heap.size (fun _ => True) v1_ r2 ∧ Below w.heap.size w w' := by
  have hu24 := Tryd.underlying24
  have HR1 := zMk hr1
  have HC1 := zMk hc1
  clear hr1 hc1
  have HB := zMk (Below.refl w.heap.size w)
  have H : ((n_Norm.f l1).bind fun t259 => (if a0 = true then (some (decide ((t259.length : Int) > 0), t259)) else (some (false, t259)))) = some (r1, r2) := h
  clear h
  replace H := bnd H
  obtain ⟨t259, A30, H⟩ := H
  have A3 := zMk A30
  clear A30
  by_cases c4 : a0 = true
  · subst c4
    have H1 : (some (decide ((t259.length : Int) > 0), t259)) = some (r1, r2) := by rw [if_pos rfl] at H; exact H
    clear H
    have H := H1
    clear H1
    simp only [Option.some.injEq, Prod.mk.injEq] at H
    obtain ⟨rfl, rfl⟩ := H
    have hdl_ : decide ((t259.length : Int) > 0) = decide (0 < t259.length) := decide_eq_decide.2 (by omega)
    rw [hdl_]
    go_enter Tryd.func36, Tryd.ntmps36
    go_wp2_with (first |  ((with_reducible refine gate_dst (N := 4) rfl ?_); (try (refine gate_guard (by rfl) ?_; dsimp only)); refine box_event ?hg (N := 4) ?hd (cs := #[.bool false, .slice none 0 0]) (t := 24) ?hr ?_; (case hd => rfl); (case hg => rfl); (case hr => first |  (go_simp; done)|  (go_simp; rfl)|  (go_simp; rw [show ∀ x : Int, IntKind.u32.wrap (IntKind.u8.wrap x) = x % 256 from fun x => (by show (x % 256) % 4294967296 = x % 256; omega)])); intro gb258 hg w5 hbox hb; have BK258 := zMk (hbox); have GW258 := zMk ((by rw [hg]; exact (zBs (by exact uT HB.out)) : w.heap.size ≤ gb258)); have GE258 := zMk ((by rw [hg]; exact (zBs (by exact uT HB.out)) : w.heap.size ≤ gb258)); have IGE258 := ownGe GE258.out; replace HB := zMk (zBt (by exact uT HB.out) hb); clear hb hbox hg)|  ((with_reducible refine gate_callee (f := 57) rfl ?_); refine goesL_ (some 6) rfl rfl Tryd.func57 (by kernel_rfl) rfl #[.slice A1 l1.length c1] rfl (by (try simp only [zMa, zMc, zMn]); first |  done|  rfl|  (simp only [zLd, zLt]; rfl)) ?_; (with_reducible refine (n_Norm.calls _ _ l1 t259 _ ?side1 ?side2 A3.out).mono ?_); (case side1 => repeat (first |  exact (Kd.C_below HR1.out HB.out)|  (with_reducible refine zCa ?_ _)|  (with_reducible refine zCn ?_ _)|  (with_reducible refine zCd ?_))); (case side2 => exact HC1.out); rintro e w6 ⟨v260, rfl, ho0, hb⟩; refine ⟨_, rfl, ?_⟩; have HO261 := zMk (zRl ho0 (zBs (by exact uT HB.out))); replace BK258 := zMk (zKb (g := gb258) (o := .cells #[.bool false, .slice none 0 0] 24 (0, 0)) (by (with_reducible repeat (first |  refine zKn ?_ _|  refine zKd ?_|  refine zKa ?_ _)); exact BK258.out) hb); replace HB := zMk (zBt (by exact uT HB.out) hb); (try clear hb); (try clear hb2); (try clear hk); (try clear hi); (try clear ho0); obtain ⟨Ao7, co7, eo7⟩ := zRs HO261.out; subst eo7; have hcz8_0 : w6.cell? ⟨gb258, 0, none⟩ = some (.bool false) := (zKc BK258.out 0).trans rfl; have hcz8_1 : w6.cell? ⟨gb258, 1, none⟩ = some (.slice none 0 0) := (zKc BK258.out 1).trans rfl; have hfz8_0 := zKf BK258.out 0; have hfz8_1 := zKf BK258.out 1))
    refine bodyPost_ret (results_cell_row rfl _ _ gb258 24 #[.bool (decide (0 < t259.length)), .slice Ao7 t259.length co7] (0, 0) _ rfl (by (with_reducible repeat (first | refine zKn ?_ _ | refine zKd ?_ | refine zKa ?_ _)); refine blk_put (cs := #[.bool (decide (0 < t259.length)), .slice none 0 0]) ?_ 1 _ rfl; (with_reducible repeat (first | refine zKn ?_ _ | refine zKd ?_ | refine zKa ?_ _)); refine blk_put (cs := #[.bool false, .slice none 0 0]) ?_ 0 _ rfl; (with_reducible repeat (first | refine zKn ?_ _ | refine zKd ?_ | refine zKa ?_ _)); exact BK258.out) Tryd.underlying24 rfl (by kernel_rfl)) rfl ?_
    exact ⟨_, by first | rfl | (simp [errW_none, errW_some] <;> rfl) | (simp [*, errW_none, errW_some] <;> rfl), by (with_reducible repeat (first | apply zRa | apply zRn | apply zRd)); exact zRm (Kd.R_far (p := ⟨gb258, 1, none⟩) (Kd.R_far (p := ⟨gb258, 0, none⟩) (Kd.R_types HO261.out BK258.out (by decide)) (fun _ hk => hk.2) (.bool (decide (0 < t259.length)))) (fun _ hk => hk.2) (.slice Ao7 t259.length co7)) (fun _ hk => trivial), by exact uT HB.out⟩
  · replace c4 := Bool.eq_false_iff.mpr c4
    subst c4
    have H1 : (some (false, t259)) = some (r1, r2) := by rw [if_neg (show ¬ (false = true) by decide)] at H; exact H
    clear H
    have H := H1
    clear H1
    simp only [Option.some.injEq, Prod.mk.injEq] at H
    obtain ⟨rfl, rfl⟩ := H
    go_enter Tryd.func36, Tryd.ntmps36
    go_wp2_with (first |  ((with_reducible refine gate_dst (N := 4) rfl ?_); (try (refine gate_guard (by rfl) ?_; dsimp only)); refine box_event ?hg (N := 4) ?hd (cs := #[.bool false, .slice none 0 0]) (t := 24) ?hr ?_; (case hd => rfl); (case hg => rfl); (case hr => first |  (go_simp; done)|  (go_simp; rfl)|  (go_simp; rw [show ∀ x : Int, IntKind.u32.wrap (IntKind.u8.wrap x) = x % 256 from fun x => (by show (x % 256) % 4294967296 = x % 256; omega)])); intro gb258 hg w9 hbox hb; have BK258 := zMk (hbox); have GW258 := zMk ((by rw [hg]; exact (zBs (by exact uT HB.out)) : w.heap.size ≤ gb258)); have GE258 := zMk ((by rw [hg]; exact (zBs (by exact uT HB.out)) : w.heap.size ≤ gb258)); have IGE258 := ownGe GE258.out; replace HB := zMk (zBt (by exact uT HB.out) hb); clear hb hbox hg)|  ((with_reducible refine gate_callee (f := 57) rfl ?_); refine goesL_ (some 6) rfl rfl Tryd.func57 (by kernel_rfl) rfl #[.slice A1 l1.length c1] rfl (by (try simp only [zMa, zMc, zMn]); first |  done|  rfl|  (simp only [zLd, zLt]; rfl)) ?_; (with_reducible refine (n_Norm.calls _ _ l1 t259 _ ?side1 ?side2 A3.out).mono ?_); (case side1 => repeat (first |  exact (Kd.C_below HR1.out HB.out)|  (with_reducible refine zCa ?_ _)|  (with_reducible refine zCn ?_ _)|  (with_reducible refine zCd ?_))); (case side2 => exact HC1.out); rintro e w10 ⟨v260, rfl, ho0, hb⟩; refine ⟨_, rfl, ?_⟩; have HO261 := zMk (zRl ho0 (zBs (by exact uT HB.out))); replace BK258 := zMk (zKb (g := gb258) (o := .cells #[.bool false, .slice none 0 0] 24 (0, 0)) (by (with_reducible repeat (first |  refine zKn ?_ _|  refine zKd ?_|  refine zKa ?_ _)); exact BK258.out) hb); replace HB := zMk (zBt (by exact uT HB.out) hb); (try clear hb); (try clear hb2); (try clear hk); (try clear hi); (try clear ho0); obtain ⟨Ao11, co11, eo11⟩ := zRs HO261.out; subst eo11; have hcz12_0 : w10.cell? ⟨gb258, 0, none⟩ = some (.bool false) := (zKc BK258.out 0).trans rfl; have hcz12_1 : w10.cell? ⟨gb258, 1, none⟩ = some (.slice none 0 0) := (zKc BK258.out 1).trans rfl; have hfz12_0 := zKf BK258.out 0; have hfz12_1 := zKf BK258.out 1))
    refine bodyPost_ret (results_cell_row rfl _ _ gb258 24 #[.bool false, .slice Ao11 t259.length co11] (0, 0) _ rfl (by (with_reducible repeat (first | refine zKn ?_ _ | refine zKd ?_ | refine zKa ?_ _)); refine blk_put (cs := #[.bool false, .slice none 0 0]) ?_ 1 _ rfl; (with_reducible repeat (first | refine zKn ?_ _ | refine zKd ?_ | refine zKa ?_ _)); refine blk_put (cs := #[.bool false, .slice none 0 0]) ?_ 0 _ rfl; (with_reducible repeat (first | refine zKn ?_ _ | refine zKd ?_ | refine zKa ?_ _)); exact BK258.out) Tryd.underlying24 rfl (by kernel_rfl)) rfl ?_
    exact ⟨_, by first | rfl | (simp [errW_none, errW_some] <;> rfl) | (simp [*, errW_none, errW_some] <;> rfl), by (with_reducible repeat (first | apply zRa | apply zRn | apply zRd)); exact zRm (Kd.R_far (p := ⟨gb258, 1, none⟩) (Kd.R_far (p := ⟨gb258, 0, none⟩) (Kd.R_types HO261.out BK258.out (by decide)) (fun _ hk => hk.2) (.bool false)) (fun _ hk => hk.2) (.slice Ao11 t259.length co11)) (fun _ hk => trivial), by exact uT HB.out⟩

end Go.Proofs.YtnjmnicgknggfaaDoor.E
