/- Words of the kit's print (print.sh), those that this claim speaks of: cut down by a program of this session. -/
import Derived.SizedLaws
import Derived.ChangeSlices
namespace Go.Proofs.YtkiemlbobcklpaaW.PrintWords
open Go.ChangeShapes Go.WideShapes
end Go.Proofs.YtkiemlbobcklpaaW.PrintWords
