-- Out of the words that the kit's print.sh laid; what this claim does not use is cut away
import Derived.Test.YthipginmgmmdcaaWWords
import Derived.Laws.StructEq
/-! ### 53. '==' of structs as_ one Bool -/
namespace Go.Proofs.YthipginmgmmdcaaW.PrintWords
open Go.RowKit
section
variable {P : Program} {d : Nat} {xs ys : Array Value} {f : Field} {fs : List Field} {a b : Value} {r s : Bool} {w : World}
end
end Go.Proofs.YthipginmgmmdcaaW.PrintWords
