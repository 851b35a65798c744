/- The pure part of FnExactRestOf: the Lean function of the law answers true for every argument. -/
import Derived.Test.YtmkcmkkpeimldaaDoorPx8
import Derived.Test.YtmkcmkkpeimldaaDoorQR
namespace Go.Proofs.YtmkcmkkpeimldaaDoor.Pure
open Go.RowKit Go.Proofs.YtmkcmkkpeimldaaDoor.P Go.Proofs.YtmkcmkkpeimldaaDoorW.PrintWords Go.Proofs.YtmkcmkkpeimldaaDoorW.PrintLast
set_option linter.unusedVariables false
set_option linter.unusedSimpArgs false

theorem FnExactRestOf : laws_FnExactRestOf.Pure := by
  intro p s hp hs
  refine ⟨3000000, ?_⟩
  unfold laws_FnExactRestOf.f
  split
  · rfl
  · split
    · rfl
    · rw [specR_some p s (by omega) (by omega) _ (by omega), bsome, implR_some p s (by omega) (by omega), bsome, if_pos rfl]

end Go.Proofs.YtmkcmkkpeimldaaDoor.Pure
