/-
  DERIVED. GIVEN WITH THE SEED: THE CARDS: each row of YtnjmnicgknggfaaDoorRows.lean that lists a variable, with what it lists TIED to the program's text (the seventh form; the later family's looks); each row that meets fmt, with fmt's text TOLD by the authors' own Lean function (tested against real Go, not proved from fmt's source: count such statements apart). THE CARD IS WHAT COUNTS. Prove the row's statement (the work); the ties are given (YtnjmnicgknggfaaDoorTie.lean); close each card by the builder's one call (the guide's Derived/Test/ToyasCard.lean, 'card_holds'). Laid BY PROGRAM, IN A SANDBOX (cutbox-door.mjs). By AI agents, Wed Nov 11 2026. No macro, syntax, notation, axiom, sorry.
-/
import Derived.Test.YtnjmnicgknggfaaDoorRows
import GoSem.ClaimSeven
namespace Go.Proofs.YtnjmnicgknggfaaDoor
namespace Rows

/-- THE TIED CARD OF 'filigreelaw02.IntegerQuotients'. -/
def integerQuotientsCard : Claim7 := { stood := { row := integerQuotientsRow, standIns := [], harness := (true, "3198d2d9d0c052d50b39bbe009e5121a79be3402d1d163b2b9d53d93f2cf253a"), looks := false }, kinds := [], alts := [], laidByText := true, laidKinds := [.data, .data, .data], laidTests := true, laidLooks := .later }
def IntegerQuotientsCardSaid : Prop := Claim7.holds Tryd.pinned (.plain (OpenSpec.ofChange integerQuotientsSpec)) integerQuotientsCard

/-- THE TIED CARD OF 'filigreelaw02.IntegerSums'. -/
def integerSumsCard : Claim7 := { stood := { row := integerSumsRow, standIns := [], harness := (true, "3198d2d9d0c052d50b39bbe009e5121a79be3402d1d163b2b9d53d93f2cf253a"), looks := false }, kinds := [], alts := [], laidByText := true, laidKinds := [.data, .data, .data], laidTests := true, laidLooks := .later }
def IntegerSumsCardSaid : Prop := Claim7.holds Tryd.pinned (.plain (OpenSpec.ofChange integerSumsSpec)) integerSumsCard

/-- THE TIED CARD OF 'filigreelaw02.IntegerRing'. -/
def integerRingCard : Claim7 := { stood := { row := integerRingRow, standIns := [], harness := (true, "3198d2d9d0c052d50b39bbe009e5121a79be3402d1d163b2b9d53d93f2cf253a"), looks := false }, kinds := [], alts := [], laidByText := true, laidKinds := [.data, .data, .data], laidTests := true, laidLooks := .later }
def IntegerRingCardSaid : Prop := Claim7.holds Tryd.pinned (.plain (OpenSpec.ofChange integerRingSpec)) integerRingCard

/-- THE TIED CARD OF 'filigreelaw02.IntegerRoots'. -/
def integerRootsCard : Claim7 := { stood := { row := integerRootsRow, standIns := [], harness := (true, "3198d2d9d0c052d50b39bbe009e5121a79be3402d1d163b2b9d53d93f2cf253a"), looks := false }, kinds := [], alts := [], laidByText := true, laidKinds := [.data, .data, .data], laidTests := true, laidLooks := .later }
def IntegerRootsCardSaid : Prop := Claim7.holds Tryd.pinned (.plain (OpenSpec.ofChange integerRootsSpec)) integerRootsCard

/-- THE TIED CARD OF 'filigreelaw02.IntegerDivides'. -/
def integerDividesCard : Claim7 := { stood := { row := integerDividesRow, standIns := [], harness := (true, "3198d2d9d0c052d50b39bbe009e5121a79be3402d1d163b2b9d53d93f2cf253a"), looks := false }, kinds := [], alts := [], laidByText := true, laidKinds := [.data, .data, .data], laidTests := true, laidLooks := .later }
def IntegerDividesCardSaid : Prop := Claim7.holds Tryd.pinned (.plain (OpenSpec.ofChange integerDividesSpec)) integerDividesCard

/-- THE TIED CARD OF 'filigreelaw02.IntegerTexts'. -/
def integerTextsCard : Claim7 := { stood := { row := integerTextsRow, standIns := [], harness := (true, "3198d2d9d0c052d50b39bbe009e5121a79be3402d1d163b2b9d53d93f2cf253a"), looks := false }, kinds := [], alts := [], laidByText := true, laidKinds := [.data, .data, .data], laidTests := true, laidLooks := .later }
def IntegerTextsCardSaid : Prop := Claim7.holds Tryd.pinned (.plain (OpenSpec.ofChange integerTextsSpec)) integerTextsCard

/-- THE TIED CARD OF 'filigreelaw02.IntegerBack'. -/
def integerBackCard : Claim7 := { stood := { row := integerBackRow, standIns := [], harness := (true, "3198d2d9d0c052d50b39bbe009e5121a79be3402d1d163b2b9d53d93f2cf253a"), looks := false }, kinds := [], alts := [], laidByText := true, laidKinds := [.data, .data, .data], laidTests := true, laidLooks := .later }
def IntegerBackCardSaid : Prop := Claim7.holds Tryd.pinned (.plain (OpenSpec.ofChange integerBackSpec)) integerBackCard

/-- THE SECOND FORM's CARD OF 'filigreelaw02.IntegerQuotients'. -/
def integerQuotientsUptoCard : Claim7 := { stood := { row := integerQuotientsUptoRow, standIns := [], harness := (true, "3198d2d9d0c052d50b39bbe009e5121a79be3402d1d163b2b9d53d93f2cf253a"), looks := false }, kinds := [], alts := [], laidByText := true, laidKinds := [.data, .data, .data], laidTests := true, laidLooks := .later }
def IntegerQuotientsUptoCardSaid : Prop := Claim7.holds Tryd.pinned (.plain (OpenSpec.upto integerQuotientsSpec)) integerQuotientsUptoCard

/-- THE SECOND FORM's CARD OF 'filigreelaw02.IntegerSums'. -/
def integerSumsUptoCard : Claim7 := { stood := { row := integerSumsUptoRow, standIns := [], harness := (true, "3198d2d9d0c052d50b39bbe009e5121a79be3402d1d163b2b9d53d93f2cf253a"), looks := false }, kinds := [], alts := [], laidByText := true, laidKinds := [.data, .data, .data], laidTests := true, laidLooks := .later }
def IntegerSumsUptoCardSaid : Prop := Claim7.holds Tryd.pinned (.plain (OpenSpec.upto integerSumsSpec)) integerSumsUptoCard

/-- THE SECOND FORM's CARD OF 'filigreelaw02.IntegerRing'. -/
def integerRingUptoCard : Claim7 := { stood := { row := integerRingUptoRow, standIns := [], harness := (true, "3198d2d9d0c052d50b39bbe009e5121a79be3402d1d163b2b9d53d93f2cf253a"), looks := false }, kinds := [], alts := [], laidByText := true, laidKinds := [.data, .data, .data], laidTests := true, laidLooks := .later }
def IntegerRingUptoCardSaid : Prop := Claim7.holds Tryd.pinned (.plain (OpenSpec.upto integerRingSpec)) integerRingUptoCard

/-- THE SECOND FORM's CARD OF 'filigreelaw02.IntegerRoots'. -/
def integerRootsUptoCard : Claim7 := { stood := { row := integerRootsUptoRow, standIns := [], harness := (true, "3198d2d9d0c052d50b39bbe009e5121a79be3402d1d163b2b9d53d93f2cf253a"), looks := false }, kinds := [], alts := [], laidByText := true, laidKinds := [.data, .data, .data], laidTests := true, laidLooks := .later }
def IntegerRootsUptoCardSaid : Prop := Claim7.holds Tryd.pinned (.plain (OpenSpec.upto integerRootsSpec)) integerRootsUptoCard

/-- THE SECOND FORM's CARD OF 'filigreelaw02.IntegerDivides'. -/
def integerDividesUptoCard : Claim7 := { stood := { row := integerDividesUptoRow, standIns := [], harness := (true, "3198d2d9d0c052d50b39bbe009e5121a79be3402d1d163b2b9d53d93f2cf253a"), looks := false }, kinds := [], alts := [], laidByText := true, laidKinds := [.data, .data, .data], laidTests := true, laidLooks := .later }
def IntegerDividesUptoCardSaid : Prop := Claim7.holds Tryd.pinned (.plain (OpenSpec.upto integerDividesSpec)) integerDividesUptoCard

/-- THE SECOND FORM's CARD OF 'filigreelaw02.IntegerTexts'. -/
def integerTextsUptoCard : Claim7 := { stood := { row := integerTextsUptoRow, standIns := [], harness := (true, "3198d2d9d0c052d50b39bbe009e5121a79be3402d1d163b2b9d53d93f2cf253a"), looks := false }, kinds := [], alts := [], laidByText := true, laidKinds := [.data, .data, .data], laidTests := true, laidLooks := .later }
def IntegerTextsUptoCardSaid : Prop := Claim7.holds Tryd.pinned (.plain (OpenSpec.upto integerTextsSpec)) integerTextsUptoCard

/-- THE SECOND FORM's CARD OF 'filigreelaw02.IntegerBack'. -/
def integerBackUptoCard : Claim7 := { stood := { row := integerBackUptoRow, standIns := [], harness := (true, "3198d2d9d0c052d50b39bbe009e5121a79be3402d1d163b2b9d53d93f2cf253a"), looks := false }, kinds := [], alts := [], laidByText := true, laidKinds := [.data, .data, .data], laidTests := true, laidLooks := .later }
def IntegerBackUptoCardSaid : Prop := Claim7.holds Tryd.pinned (.plain (OpenSpec.upto integerBackSpec)) integerBackUptoCard
end Rows
end Go.Proofs.YtnjmnicgknggfaaDoor
