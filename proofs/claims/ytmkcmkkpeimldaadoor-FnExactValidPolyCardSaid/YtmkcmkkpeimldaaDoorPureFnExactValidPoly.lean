/- The pure part of FnExactValidPoly: the Lean function of the law answers true for every argument. -/
import Derived.Test.YtmkcmkkpeimldaaDoorPx2
import Derived.Test.YtmkcmkkpeimldaaDoorPx3
import Derived.Test.YtmkcmkkpeimldaaDoorQP
namespace Go.Proofs.YtmkcmkkpeimldaaDoor.Pure
open Go.RowKit Go.Proofs.YtmkcmkkpeimldaaDoor.P Go.Proofs.YtmkcmkkpeimldaaDoorW.PrintWords Go.Proofs.YtmkcmkkpeimldaaDoorW.PrintLast
set_option linter.unusedVariables false
set_option linter.unusedSimpArgs false

theorem FnExactValidPoly : laws_FnExactValidPoly.Pure := by
  intro p hp
  refine ⟨2000000, ?_⟩
  unfold laws_FnExactValidPoly.f
  split
  · rfl
  · unfold spec_ValidPoly.f
    rw [specPoly_some p (by omega) _ (by omega), bsome, bsome, implPoly_some p (by omega), bsome, if_neg (by simp)]

end Go.Proofs.YtmkcmkkpeimldaaDoor.Pure
