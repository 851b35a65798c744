-- Out of the words that the kit's print.sh laid; what this claim does not use is cut away
import Derived.Test.YthipginmgmmdcaaWTab
/-! ### 56. Four, five, six operations that may come up next, in any order -/
namespace Go.Proofs.YthipginmgmmdcaaW.PrintLast
section
variable {P : Program} {ops : Array Oper} {Q : Exit → Act → World → Prop} {md : Region.Mode} {S : World → Prop} {ds : List Nat} {T : Bool × List (List Nat × List Nat)}
end
end Go.Proofs.YthipginmgmmdcaaW.PrintLast
