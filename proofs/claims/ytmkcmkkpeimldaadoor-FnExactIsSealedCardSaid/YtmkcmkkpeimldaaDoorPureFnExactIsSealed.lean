/- The pure part of FnExactIsSealed: the Lean function of the law answers true for every argument. -/
import Derived.Test.YtmkcmkkpeimldaaDoorPx9
import Derived.Test.YtmkcmkkpeimldaaDoorQSe
namespace Go.Proofs.YtmkcmkkpeimldaaDoor.Pure
open Go.RowKit Go.Proofs.YtmkcmkkpeimldaaDoor.P Go.Proofs.YtmkcmkkpeimldaaDoorW.PrintWords Go.Proofs.YtmkcmkkpeimldaaDoorW.PrintLast
set_option linter.unusedVariables false
set_option linter.unusedSimpArgs false

theorem FnExactIsSealed : laws_FnExactIsSealed.Pure := by
  intro p s hp hs
  refine ⟨3000000, ?_⟩
  unfold laws_FnExactIsSealed.f
  split
  · rfl
  · split
    · rfl
    · rw [specI_some p s (by omega) (by omega) _ (by omega), bsome, implI_some p s (by omega) (by omega), bsome, if_neg (by simp)]

end Go.Proofs.YtmkcmkkpeimldaaDoor.Pure
