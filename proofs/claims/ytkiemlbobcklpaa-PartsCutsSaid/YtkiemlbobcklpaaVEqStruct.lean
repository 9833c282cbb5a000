/- Words of the kit's print (print.sh), those that this claim speaks of: cut down by a program of this session. -/
import Derived.Test.YtkiemlbobcklpaaVWords
import Derived.Laws.StructEq
/-! ### 53. '==' of structs as_ one Bool -/
namespace Go.Proofs.YtkiemlbobcklpaaW.PrintWords
open Go.RowKit
section
variable {P : Program} {d : Nat} {xs ys : Array Value} {f : Field} {fs : List Field} {a b : Value} {r s : Bool} {w : World}
end
end Go.Proofs.YtkiemlbobcklpaaW.PrintWords
