/-
  No cell of these rows narrows 'for every input' (looked for: loops, veiled, ifaces, maps, wideKeys, modest, calm, conditions, laid).
  DERIVED. THE GIVEN ROWS OF THIS SEAT. 8 by the template 'for every input the law returns true; each argument reads behind the call as it read before'; 0 by the template 'total and deterministic' (their statements: YteicpdkembmilaaTotals.lean).
  GIVEN WITH THE SEED: the statements are not yours to turn. If you find one false, say at which input.
  Laid BY PROGRAM, IN A SANDBOX (cutbox-rows.mjs): the forced cells as the released guide's own fill.sh prints them over the translation 50fea7eaa7c437ee… (all of the seat's roots in one cut). By AI agents, Wed Nov 11 2026. No macro, syntax, notation, axiom, sorry.
-/
import Derived.Test.YteicpdkembmilaaChecked
import GoSem.Claim
import GoSem.ClaimJoined
import GoSem.ClaimMapViews
import Derived.JoinedTies
import Derived.KernelRfl
namespace Go.Proofs.Yteicpdkembmilaa
/- THE CELL 'sum', in the pinned program and in every row, IS THE sha256 OF THE DUMP (.gsa) THAT YteicpdkembmilaaProg.lean LOADS. Nothing in Lean hashes anything: it is a label: what it is worth is what the hold of that sum in a sandbox is worth. -/
noncomputable def Try.pinned : Pinned := { name := "yteicpdkembmilaa", sum := "50fea7eaa7c437ee25193bb30b2b0a765c2e15c8316c8e9d1e81df9c573c88cd", checked := Try.checked }
namespace Rows
def none {H : Type} : Left H := { results := [], args := [] }

/-- 'filigreelaw04.GraphRight': WHATEVER THE INPUT: true; the input reads as it did. -/
def graphRightSpec : ChangeSpec := { name := "graphRight", fn := fun _ => fun
  | [d] => { results := [.lit (.bool true)], args := [d] }
  | _ => none }
def graphRightRow : OpenClaim := { program := "yteicpdkembmilaa", sum := "50fea7eaa7c437ee25193bb30b2b0a765c2e15c8316c8e9d1e81df9c573c88cd", func := "filigree/filigreelaw04.GraphRight", spec := "graphRight", unfollowed := true, recurses := true, apart := false }
def GraphRightSaid : Prop := graphRightRow.holds Try.pinned (OpenSpec.ofChange graphRightSpec)

/-- ITS FALSE NEIGHBOUR: 'it returns false'. Refute it at one input. -/
def graphRightWrong : ChangeSpec := { name := "graphRight", fn := fun _ => fun
  | [d] => { results := [.lit (.bool false)], args := [d] }
  | _ => none }
def GraphRightWrongFalsely : Prop := graphRightRow.holds Try.pinned (OpenSpec.ofChange graphRightWrong)

/-- 'filigreelaw04.GraphMakes': WHATEVER THE INPUT: true; the input reads as it did. -/
def graphMakesSpec : ChangeSpec := { name := "graphMakes", fn := fun _ => fun
  | [d1, d2] => { results := [.lit (.bool true)], args := [d1, d2] }
  | _ => none }
def graphMakesRow : OpenClaim := { program := "yteicpdkembmilaa", sum := "50fea7eaa7c437ee25193bb30b2b0a765c2e15c8316c8e9d1e81df9c573c88cd", func := "filigree/filigreelaw04.GraphMakes", spec := "graphMakes", unfollowed := true, recurses := true, apart := false }
def GraphMakesSaid : Prop := graphMakesRow.holds Try.pinned (OpenSpec.ofChange graphMakesSpec)

/-- ITS FALSE NEIGHBOUR: 'it returns false'. Refute it at one input. -/
def graphMakesWrong : ChangeSpec := { name := "graphMakes", fn := fun _ => fun
  | [d1, d2] => { results := [.lit (.bool false)], args := [d1, d2] }
  | _ => none }
def GraphMakesWrongFalsely : Prop := graphMakesRow.holds Try.pinned (OpenSpec.ofChange graphMakesWrong)

/-- 'filigreelaw04.GraphAgain': WHATEVER THE INPUT: true; the input reads as it did. -/
def graphAgainSpec : ChangeSpec := { name := "graphAgain", fn := fun _ => fun
  | [d1, d2, d3] => { results := [.lit (.bool true)], args := [d1, d2, d3] }
  | _ => none }
def graphAgainRow : OpenClaim := { program := "yteicpdkembmilaa", sum := "50fea7eaa7c437ee25193bb30b2b0a765c2e15c8316c8e9d1e81df9c573c88cd", func := "filigree/filigreelaw04.GraphAgain", spec := "graphAgain", unfollowed := true, recurses := true, apart := false }
def GraphAgainSaid : Prop := graphAgainRow.holds Try.pinned (OpenSpec.ofChange graphAgainSpec)

/-- ITS FALSE NEIGHBOUR: 'it returns false'. Refute it at one input. -/
def graphAgainWrong : ChangeSpec := { name := "graphAgain", fn := fun _ => fun
  | [d1, d2, d3] => { results := [.lit (.bool false)], args := [d1, d2, d3] }
  | _ => none }
def GraphAgainWrongFalsely : Prop := graphAgainRow.holds Try.pinned (OpenSpec.ofChange graphAgainWrong)

/-- 'filigreelaw04.GraphWeights': WHATEVER THE INPUT: true; the input reads as it did. -/
def graphWeightsSpec : ChangeSpec := { name := "graphWeights", fn := fun _ => fun
  | [d1, d2] => { results := [.lit (.bool true)], args := [d1, d2] }
  | _ => none }
def graphWeightsRow : OpenClaim := { program := "yteicpdkembmilaa", sum := "50fea7eaa7c437ee25193bb30b2b0a765c2e15c8316c8e9d1e81df9c573c88cd", func := "filigree/filigreelaw04.GraphWeights", spec := "graphWeights", unfollowed := true, recurses := true, apart := false }
def GraphWeightsSaid : Prop := graphWeightsRow.holds Try.pinned (OpenSpec.ofChange graphWeightsSpec)

/-- ITS FALSE NEIGHBOUR: 'it returns false'. Refute it at one input. -/
def graphWeightsWrong : ChangeSpec := { name := "graphWeights", fn := fun _ => fun
  | [d1, d2] => { results := [.lit (.bool false)], args := [d1, d2] }
  | _ => none }
def GraphWeightsWrongFalsely : Prop := graphWeightsRow.holds Try.pinned (OpenSpec.ofChange graphWeightsWrong)

/-- 'filigreelaw04.GraphParts': WHATEVER THE INPUT: true; the input reads as it did. -/
def graphPartsSpec : ChangeSpec := { name := "graphParts", fn := fun _ => fun
  | [d1, d2, d3, d4] => { results := [.lit (.bool true)], args := [d1, d2, d3, d4] }
  | _ => none }
def graphPartsRow : OpenClaim := { program := "yteicpdkembmilaa", sum := "50fea7eaa7c437ee25193bb30b2b0a765c2e15c8316c8e9d1e81df9c573c88cd", func := "filigree/filigreelaw04.GraphParts", spec := "graphParts", unfollowed := true, recurses := true, apart := false }
def GraphPartsSaid : Prop := graphPartsRow.holds Try.pinned (OpenSpec.ofChange graphPartsSpec)

/-- ITS FALSE NEIGHBOUR: 'it returns false'. Refute it at one input. -/
def graphPartsWrong : ChangeSpec := { name := "graphParts", fn := fun _ => fun
  | [d1, d2, d3, d4] => { results := [.lit (.bool false)], args := [d1, d2, d3, d4] }
  | _ => none }
def GraphPartsWrongFalsely : Prop := graphPartsRow.holds Try.pinned (OpenSpec.ofChange graphPartsWrong)

/-- 'filigreelaw04.GraphSplit': WHATEVER THE INPUT: true; the input reads as it did. -/
def graphSplitSpec : ChangeSpec := { name := "graphSplit", fn := fun _ => fun
  | [d1, d2] => { results := [.lit (.bool true)], args := [d1, d2] }
  | _ => none }
def graphSplitRow : OpenClaim := { program := "yteicpdkembmilaa", sum := "50fea7eaa7c437ee25193bb30b2b0a765c2e15c8316c8e9d1e81df9c573c88cd", func := "filigree/filigreelaw04.GraphSplit", spec := "graphSplit", unfollowed := true, recurses := true, apart := false }
def GraphSplitSaid : Prop := graphSplitRow.holds Try.pinned (OpenSpec.ofChange graphSplitSpec)

/-- ITS FALSE NEIGHBOUR: 'it returns false'. Refute it at one input. -/
def graphSplitWrong : ChangeSpec := { name := "graphSplit", fn := fun _ => fun
  | [d1, d2] => { results := [.lit (.bool false)], args := [d1, d2] }
  | _ => none }
def GraphSplitWrongFalsely : Prop := graphSplitRow.holds Try.pinned (OpenSpec.ofChange graphSplitWrong)

/-- 'filigreelaw04.GraphNear': WHATEVER THE INPUT: true; the input reads as it did. -/
def graphNearSpec : ChangeSpec := { name := "graphNear", fn := fun _ => fun
  | [d1, d2, d3] => { results := [.lit (.bool true)], args := [d1, d2, d3] }
  | _ => none }
def graphNearRow : OpenClaim := { program := "yteicpdkembmilaa", sum := "50fea7eaa7c437ee25193bb30b2b0a765c2e15c8316c8e9d1e81df9c573c88cd", func := "filigree/filigreelaw04.GraphNear", spec := "graphNear", unfollowed := true, recurses := true, apart := false }
def GraphNearSaid : Prop := graphNearRow.holds Try.pinned (OpenSpec.ofChange graphNearSpec)

/-- ITS FALSE NEIGHBOUR: 'it returns false'. Refute it at one input. -/
def graphNearWrong : ChangeSpec := { name := "graphNear", fn := fun _ => fun
  | [d1, d2, d3] => { results := [.lit (.bool false)], args := [d1, d2, d3] }
  | _ => none }
def GraphNearWrongFalsely : Prop := graphNearRow.holds Try.pinned (OpenSpec.ofChange graphNearWrong)

/-- 'filigreelaw04.GraphHands': WHATEVER THE INPUT: true; the input reads as it did. -/
def graphHandsSpec : ChangeSpec := { name := "graphHands", fn := fun _ => fun
  | [d] => { results := [.lit (.bool true)], args := [d] }
  | _ => none }
def graphHandsRow : OpenClaim := { program := "yteicpdkembmilaa", sum := "50fea7eaa7c437ee25193bb30b2b0a765c2e15c8316c8e9d1e81df9c573c88cd", func := "filigree/filigreelaw04.GraphHands", spec := "graphHands", unfollowed := true, recurses := true, apart := false }
def GraphHandsSaid : Prop := graphHandsRow.holds Try.pinned (OpenSpec.ofChange graphHandsSpec)

/-- ITS FALSE NEIGHBOUR: 'it returns false'. Refute it at one input. -/
def graphHandsWrong : ChangeSpec := { name := "graphHands", fn := fun _ => fun
  | [d] => { results := [.lit (.bool false)], args := [d] }
  | _ => none }
def GraphHandsWrongFalsely : Prop := graphHandsRow.holds Try.pinned (OpenSpec.ofChange graphHandsWrong)

/- THE SECOND FORM. 'bulk': how many values and letters a reading holds, each counted each time it is reached (what is shared counts as often as it is met; a slice's spare places count too). A statement '..UptoSaid' is the law's where the arguments, and the package variables that the reading takes, are together of bulk at most 1048576: NARROWER than '..Said'. Prove '..Said' where nothing that the law and all that it calls make is longer than what came in: it says more and counts as full. Else prove '..UptoSaid'. A law counts once. -/
mutual
def uptoBulk {H : Type} : DataW H → Nat
  | .lit (.string bytes) => bytes.length + 1
  | .lit _ => 1
  | .nil => 1
  | .ptr d => uptoBulk d + 1
  | .slice elems spare => uptoBulkAll elems + uptoBulkAll spare + 1
  | .agg parts => uptoBulkAll parts + 1
  | .iface _ d => uptoBulk d + 1
  | .map entries => uptoBulkEntries entries + 1
  | .held _ => 1
def uptoBulkAll {H : Type} : List (DataW H) → Nat
  | [] => 0
  | d :: r => uptoBulk d + uptoBulkAll r
def uptoBulkEntries {H : Type} : List (Lit × DataW H) → Nat
  | [] => 0
  | x :: r => uptoBulkEntry x + uptoBulkEntries r
def uptoBulkEntry {H : Type} : Lit × DataW H → Nat
  | (.string bytes, d) => bytes.length + uptoBulk d + 1
  | (_, d) => uptoBulk d + 1
 end
def uptoSmall : (H : Type) → List (DataW H) → Bool := fun _ ds => decide (uptoBulkAll ds ≤ 1048576)
def OpenSpec.upto (s : _root_.Go.ChangeSpec) : _root_.Go.OpenSpec := { _root_.Go.OpenSpec.ofChange s with cond := some uptoSmall }

/-- 'filigreelaw04.GraphRight', WHERE WHAT IT READS IS OF BULK AT MOST 1048576: true; the input reads as it did. -/
def graphRightUptoRow : OpenClaim := { program := "yteicpdkembmilaa", sum := "50fea7eaa7c437ee25193bb30b2b0a765c2e15c8316c8e9d1e81df9c573c88cd", func := "filigree/filigreelaw04.GraphRight", spec := "graphRight", unfollowed := true, recurses := true, apart := false, narrowed := true }
def GraphRightUptoSaid : Prop := graphRightUptoRow.holds Try.pinned (OpenSpec.upto graphRightSpec)

/-- 'filigreelaw04.GraphMakes', WHERE WHAT IT READS IS OF BULK AT MOST 1048576: true; the input reads as it did. -/
def graphMakesUptoRow : OpenClaim := { program := "yteicpdkembmilaa", sum := "50fea7eaa7c437ee25193bb30b2b0a765c2e15c8316c8e9d1e81df9c573c88cd", func := "filigree/filigreelaw04.GraphMakes", spec := "graphMakes", unfollowed := true, recurses := true, apart := false, narrowed := true }
def GraphMakesUptoSaid : Prop := graphMakesUptoRow.holds Try.pinned (OpenSpec.upto graphMakesSpec)

/-- 'filigreelaw04.GraphAgain', WHERE WHAT IT READS IS OF BULK AT MOST 1048576: true; the input reads as it did. -/
def graphAgainUptoRow : OpenClaim := { program := "yteicpdkembmilaa", sum := "50fea7eaa7c437ee25193bb30b2b0a765c2e15c8316c8e9d1e81df9c573c88cd", func := "filigree/filigreelaw04.GraphAgain", spec := "graphAgain", unfollowed := true, recurses := true, apart := false, narrowed := true }
def GraphAgainUptoSaid : Prop := graphAgainUptoRow.holds Try.pinned (OpenSpec.upto graphAgainSpec)

/-- 'filigreelaw04.GraphWeights', WHERE WHAT IT READS IS OF BULK AT MOST 1048576: true; the input reads as it did. -/
def graphWeightsUptoRow : OpenClaim := { program := "yteicpdkembmilaa", sum := "50fea7eaa7c437ee25193bb30b2b0a765c2e15c8316c8e9d1e81df9c573c88cd", func := "filigree/filigreelaw04.GraphWeights", spec := "graphWeights", unfollowed := true, recurses := true, apart := false, narrowed := true }
def GraphWeightsUptoSaid : Prop := graphWeightsUptoRow.holds Try.pinned (OpenSpec.upto graphWeightsSpec)

/-- 'filigreelaw04.GraphParts', WHERE WHAT IT READS IS OF BULK AT MOST 1048576: true; the input reads as it did. -/
def graphPartsUptoRow : OpenClaim := { program := "yteicpdkembmilaa", sum := "50fea7eaa7c437ee25193bb30b2b0a765c2e15c8316c8e9d1e81df9c573c88cd", func := "filigree/filigreelaw04.GraphParts", spec := "graphParts", unfollowed := true, recurses := true, apart := false, narrowed := true }
def GraphPartsUptoSaid : Prop := graphPartsUptoRow.holds Try.pinned (OpenSpec.upto graphPartsSpec)

/-- 'filigreelaw04.GraphSplit', WHERE WHAT IT READS IS OF BULK AT MOST 1048576: true; the input reads as it did. -/
def graphSplitUptoRow : OpenClaim := { program := "yteicpdkembmilaa", sum := "50fea7eaa7c437ee25193bb30b2b0a765c2e15c8316c8e9d1e81df9c573c88cd", func := "filigree/filigreelaw04.GraphSplit", spec := "graphSplit", unfollowed := true, recurses := true, apart := false, narrowed := true }
def GraphSplitUptoSaid : Prop := graphSplitUptoRow.holds Try.pinned (OpenSpec.upto graphSplitSpec)

/-- 'filigreelaw04.GraphNear', WHERE WHAT IT READS IS OF BULK AT MOST 1048576: true; the input reads as it did. -/
def graphNearUptoRow : OpenClaim := { program := "yteicpdkembmilaa", sum := "50fea7eaa7c437ee25193bb30b2b0a765c2e15c8316c8e9d1e81df9c573c88cd", func := "filigree/filigreelaw04.GraphNear", spec := "graphNear", unfollowed := true, recurses := true, apart := false, narrowed := true }
def GraphNearUptoSaid : Prop := graphNearUptoRow.holds Try.pinned (OpenSpec.upto graphNearSpec)

/-- 'filigreelaw04.GraphHands', WHERE WHAT IT READS IS OF BULK AT MOST 1048576: true; the input reads as it did. -/
def graphHandsUptoRow : OpenClaim := { program := "yteicpdkembmilaa", sum := "50fea7eaa7c437ee25193bb30b2b0a765c2e15c8316c8e9d1e81df9c573c88cd", func := "filigree/filigreelaw04.GraphHands", spec := "graphHands", unfollowed := true, recurses := true, apart := false, narrowed := true }
def GraphHandsUptoSaid : Prop := graphHandsUptoRow.holds Try.pinned (OpenSpec.upto graphHandsSpec)

end Rows
end Go.Proofs.Yteicpdkembmilaa
