/- Words of the kit's print (print.sh), those that this claim speaks of: cut down by a program of this session. -/
import Derived.Test.YtnigaojboililaaVInv
import Derived.Test.YtnigaojboililaaVFootNe
namespace Go.Proofs.YtnigaojboililaaW.PrintWords
open Go.RowKit
end Go.Proofs.YtnigaojboililaaW.PrintWords
namespace Go.Proofs.YtnigaojboililaaW.PrintLast
section
variable {ops : Array Oper} {a : Act} {o og : Oper} {g : Nat} {t : Tmp} {u : Bool}
end
end Go.Proofs.YtnigaojboililaaW.PrintLast
