-- Out of the words that the kit's print.sh laid; what this claim does not use is cut away
import Derived.Test.YthipginmgmmdcaaWInv
import Derived.Test.YthipginmgmmdcaaWFootNe
namespace Go.Proofs.YthipginmgmmdcaaW.PrintWords
open Go.RowKit
end Go.Proofs.YthipginmgmmdcaaW.PrintWords
namespace Go.Proofs.YthipginmgmmdcaaW.PrintLast
section
variable {ops : Array Oper} {a : Act} {o og : Oper} {g : Nat} {t : Tmp} {u : Bool}
end
end Go.Proofs.YthipginmgmmdcaaW.PrintLast
