/- Words of the kit's print (print.sh), those that this claim speaks of: cut down by a program of this session. -/
import Derived.Test.YtkiemlbobcklpaaVInv
import Derived.Test.YtkiemlbobcklpaaVFootNe
namespace Go.Proofs.YtkiemlbobcklpaaW.PrintWords
open Go.RowKit
end Go.Proofs.YtkiemlbobcklpaaW.PrintWords
namespace Go.Proofs.YtkiemlbobcklpaaW.PrintLast
section
variable {ops : Array Oper} {a : Act} {o og : Oper} {g : Nat} {t : Tmp} {u : Bool}
end
end Go.Proofs.YtkiemlbobcklpaaW.PrintLast
