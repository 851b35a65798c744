/- Both programs unstuff bits alike. -/
import Derived.Test.YtbgchgjefohpoaaDoorPx8
import Derived.Test.YtbgchgjefohpoaaDoorQU
namespace Go.Proofs.YtbgchgjefohpoaaDoor.Pure
open Go.RowKit Go.Proofs.YtbgchgjefohpoaaDoor.P Go.Proofs.YtbgchgjefohpoaaDoorW.PrintWords Go.Proofs.YtbgchgjefohpoaaDoorW.PrintLast
set_option linter.unusedVariables false
set_option linter.unusedSimpArgs false

theorem FnExactUnstuffBits : laws_FnExactUnstuffBits.Pure := by
  intro s hs
  refine ⟨3000, ?_⟩
  unfold laws_FnExactUnstuffBits.f
  split
  · rfl
  · rw [specU_some s _ (by omega), bsome, implU_some s (by omega) _ (by omega), bsome, if_pos rfl, if_neg (by simp)]

end Go.Proofs.YtbgchgjefohpoaaDoor.Pure
