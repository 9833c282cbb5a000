/-
  No cell of these rows narrows 'for every input' (looked for: loops, veiled, ifaces, maps, wideKeys, modest, calm, conditions, laid).
  DERIVED. THE GIVEN ROWS OF THIS SEAT. 4 by the template 'for every input the law returns true; each argument reads behind the call as it read before'; 0 by the template 'total and deterministic' (their statements: YtnigaojboililaaTotals.lean).
  GIVEN WITH THE SEED: the statements are not yours to turn. If you find one false, say at which input.
  Laid BY PROGRAM, IN A SANDBOX (cutbox-rows.mjs): the forced cells as the released guide's own fill.sh prints them over the translation 18e6b98a8a0333d3… (all of the seat's roots in one cut). By AI agents, Wed Nov 11 2026. No macro, syntax, notation, axiom, sorry.
-/
import Derived.Test.YtnigaojboililaaChecked
import GoSem.Claim
import GoSem.ClaimJoined
import GoSem.ClaimMapViews
import Derived.JoinedTies
import Derived.KernelRfl
namespace Go.Proofs.Ytnigaojboililaa
/- THE CELL 'sum', in the pinned program and in every row, IS THE sha256 OF THE DUMP (.gsa) THAT YtnigaojboililaaProg.lean LOADS. Nothing in Lean hashes anything: it is a label: what it is worth is what the hold of that sum in a sandbox is worth. -/
noncomputable def Try.pinned : Pinned := { name := "ytnigaojboililaa", sum := "18e6b98a8a0333d307450e428de61cdd534e01e8269ad08fe5759b2ff7988db3", checked := Try.checked }
namespace Rows
def none {H : Type} : Left H := { results := [], args := [] }

/-- 'filigreelaw12.PathsRight': WHATEVER THE INPUT: true; the input reads as it did. -/
def pathsRightSpec : ChangeSpec := { name := "pathsRight", fn := fun _ => fun
  | [d] => { results := [.lit (.bool true)], args := [d] }
  | _ => none }
def pathsRightRow : OpenClaim := { program := "ytnigaojboililaa", sum := "18e6b98a8a0333d307450e428de61cdd534e01e8269ad08fe5759b2ff7988db3", func := "filigree/filigreelaw12.PathsRight", spec := "pathsRight", unfollowed := true, recurses := true, apart := false }
def PathsRightSaid : Prop := pathsRightRow.holds Try.pinned (OpenSpec.ofChange pathsRightSpec)

/-- ITS FALSE NEIGHBOUR: 'it returns false'. Refute it at one input. -/
def pathsRightWrong : ChangeSpec := { name := "pathsRight", fn := fun _ => fun
  | [d] => { results := [.lit (.bool false)], args := [d] }
  | _ => none }
def PathsRightWrongFalsely : Prop := pathsRightRow.holds Try.pinned (OpenSpec.ofChange pathsRightWrong)

/-- 'filigreelaw12.PathsFrom': WHATEVER THE INPUT: true; the input reads as it did. -/
def pathsFromSpec : ChangeSpec := { name := "pathsFrom", fn := fun _ => fun
  | [d1, d2] => { results := [.lit (.bool true)], args := [d1, d2] }
  | _ => none }
def pathsFromRow : OpenClaim := { program := "ytnigaojboililaa", sum := "18e6b98a8a0333d307450e428de61cdd534e01e8269ad08fe5759b2ff7988db3", func := "filigree/filigreelaw12.PathsFrom", spec := "pathsFrom", unfollowed := true, recurses := true, apart := false }
def PathsFromSaid : Prop := pathsFromRow.holds Try.pinned (OpenSpec.ofChange pathsFromSpec)

/-- ITS FALSE NEIGHBOUR: 'it returns false'. Refute it at one input. -/
def pathsFromWrong : ChangeSpec := { name := "pathsFrom", fn := fun _ => fun
  | [d1, d2] => { results := [.lit (.bool false)], args := [d1, d2] }
  | _ => none }
def PathsFromWrongFalsely : Prop := pathsFromRow.holds Try.pinned (OpenSpec.ofChange pathsFromWrong)

/-- 'filigreelaw12.PathsChecks': WHATEVER THE INPUT: true; the input reads as it did. -/
def pathsChecksSpec : ChangeSpec := { name := "pathsChecks", fn := fun _ => fun
  | [d1, d2, d3, d4] => { results := [.lit (.bool true)], args := [d1, d2, d3, d4] }
  | _ => none }
def pathsChecksRow : OpenClaim := { program := "ytnigaojboililaa", sum := "18e6b98a8a0333d307450e428de61cdd534e01e8269ad08fe5759b2ff7988db3", func := "filigree/filigreelaw12.PathsChecks", spec := "pathsChecks", unfollowed := true, recurses := true, apart := false }
def PathsChecksSaid : Prop := pathsChecksRow.holds Try.pinned (OpenSpec.ofChange pathsChecksSpec)

/-- ITS FALSE NEIGHBOUR: 'it returns false'. Refute it at one input. -/
def pathsChecksWrong : ChangeSpec := { name := "pathsChecks", fn := fun _ => fun
  | [d1, d2, d3, d4] => { results := [.lit (.bool false)], args := [d1, d2, d3, d4] }
  | _ => none }
def PathsChecksWrongFalsely : Prop := pathsChecksRow.holds Try.pinned (OpenSpec.ofChange pathsChecksWrong)

/-- 'filigreelaw12.PathsMutual': WHATEVER THE INPUT: true; the input reads as it did. -/
def pathsMutualSpec : ChangeSpec := { name := "pathsMutual", fn := fun _ => fun
  | [d1, d2, d3] => { results := [.lit (.bool true)], args := [d1, d2, d3] }
  | _ => none }
def pathsMutualRow : OpenClaim := { program := "ytnigaojboililaa", sum := "18e6b98a8a0333d307450e428de61cdd534e01e8269ad08fe5759b2ff7988db3", func := "filigree/filigreelaw12.PathsMutual", spec := "pathsMutual", unfollowed := true, recurses := true, apart := false }
def PathsMutualSaid : Prop := pathsMutualRow.holds Try.pinned (OpenSpec.ofChange pathsMutualSpec)

/-- ITS FALSE NEIGHBOUR: 'it returns false'. Refute it at one input. -/
def pathsMutualWrong : ChangeSpec := { name := "pathsMutual", fn := fun _ => fun
  | [d1, d2, d3] => { results := [.lit (.bool false)], args := [d1, d2, d3] }
  | _ => none }
def PathsMutualWrongFalsely : Prop := pathsMutualRow.holds Try.pinned (OpenSpec.ofChange pathsMutualWrong)

/- THE SECOND FORM. 'bulk': how many values and letters a reading holds, each counted each time it is reached (what is shared counts as often as it is met; a slice's spare places count too). A statement '..UptoSaid' is the law's where the arguments, and the package variables that the reading takes, are together of bulk at most 1048576: NARROWER than '..Said'. Prove '..Said' where nothing that the law and all that it calls make is longer than what came in: it says more and counts as full. Else prove '..UptoSaid'. A law counts once. -/
mutual
def uptoBulk {H : Type} : DataW H → Nat
  | .lit (.string bytes) => bytes.length + 1
  | .lit _ => 1
  | .nil => 1
  | .ptr d => uptoBulk d + 1
  | .slice elems spare => uptoBulkAll elems + uptoBulkAll spare + 1
  | .agg parts => uptoBulkAll parts + 1
  | .iface _ d => uptoBulk d + 1
  | .map entries => uptoBulkEntries entries + 1
  | .held _ => 1
def uptoBulkAll {H : Type} : List (DataW H) → Nat
  | [] => 0
  | d :: r => uptoBulk d + uptoBulkAll r
def uptoBulkEntries {H : Type} : List (Lit × DataW H) → Nat
  | [] => 0
  | x :: r => uptoBulkEntry x + uptoBulkEntries r
def uptoBulkEntry {H : Type} : Lit × DataW H → Nat
  | (.string bytes, d) => bytes.length + uptoBulk d + 1
  | (_, d) => uptoBulk d + 1
 end
def uptoSmall : (H : Type) → List (DataW H) → Bool := fun _ ds => decide (uptoBulkAll ds ≤ 1048576)
def OpenSpec.upto (s : _root_.Go.ChangeSpec) : _root_.Go.OpenSpec := { _root_.Go.OpenSpec.ofChange s with cond := some uptoSmall }

/-- 'filigreelaw12.PathsRight', WHERE WHAT IT READS IS OF BULK AT MOST 1048576: true; the input reads as it did. -/
def pathsRightUptoRow : OpenClaim := { program := "ytnigaojboililaa", sum := "18e6b98a8a0333d307450e428de61cdd534e01e8269ad08fe5759b2ff7988db3", func := "filigree/filigreelaw12.PathsRight", spec := "pathsRight", unfollowed := true, recurses := true, apart := false, narrowed := true }
def PathsRightUptoSaid : Prop := pathsRightUptoRow.holds Try.pinned (OpenSpec.upto pathsRightSpec)

/-- 'filigreelaw12.PathsFrom', WHERE WHAT IT READS IS OF BULK AT MOST 1048576: true; the input reads as it did. -/
def pathsFromUptoRow : OpenClaim := { program := "ytnigaojboililaa", sum := "18e6b98a8a0333d307450e428de61cdd534e01e8269ad08fe5759b2ff7988db3", func := "filigree/filigreelaw12.PathsFrom", spec := "pathsFrom", unfollowed := true, recurses := true, apart := false, narrowed := true }
def PathsFromUptoSaid : Prop := pathsFromUptoRow.holds Try.pinned (OpenSpec.upto pathsFromSpec)

/-- 'filigreelaw12.PathsChecks', WHERE WHAT IT READS IS OF BULK AT MOST 1048576: true; the input reads as it did. -/
def pathsChecksUptoRow : OpenClaim := { program := "ytnigaojboililaa", sum := "18e6b98a8a0333d307450e428de61cdd534e01e8269ad08fe5759b2ff7988db3", func := "filigree/filigreelaw12.PathsChecks", spec := "pathsChecks", unfollowed := true, recurses := true, apart := false, narrowed := true }
def PathsChecksUptoSaid : Prop := pathsChecksUptoRow.holds Try.pinned (OpenSpec.upto pathsChecksSpec)

/-- 'filigreelaw12.PathsMutual', WHERE WHAT IT READS IS OF BULK AT MOST 1048576: true; the input reads as it did. -/
def pathsMutualUptoRow : OpenClaim := { program := "ytnigaojboililaa", sum := "18e6b98a8a0333d307450e428de61cdd534e01e8269ad08fe5759b2ff7988db3", func := "filigree/filigreelaw12.PathsMutual", spec := "pathsMutual", unfollowed := true, recurses := true, apart := false, narrowed := true }
def PathsMutualUptoSaid : Prop := pathsMutualUptoRow.holds Try.pinned (OpenSpec.upto pathsMutualSpec)

end Rows
end Go.Proofs.Ytnigaojboililaa
