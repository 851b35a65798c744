/- Both programs tell the same strings as bits. -/
import Derived.Test.YtbgchgjefohpoaaDoorPx1
import Derived.Test.YtbgchgjefohpoaaDoorPx2
import Derived.Test.YtbgchgjefohpoaaDoorQB
namespace Go.Proofs.YtbgchgjefohpoaaDoor.Pure
open Go.RowKit Go.Proofs.YtbgchgjefohpoaaDoor.P Go.Proofs.YtbgchgjefohpoaaDoorW.PrintWords Go.Proofs.YtbgchgjefohpoaaDoorW.PrintLast
set_option linter.unusedVariables false
set_option linter.unusedSimpArgs false

theorem FnExactValidBits : laws_FnExactValidBits.Pure := by
  intro s hs
  refine ⟨2000000, ?_⟩
  unfold laws_FnExactValidBits.f spec_ValidBits.f
  split
  · rfl
  · rw [validBits_some s (by omega) _ (by omega), bsome, bsome, valid_some s (by omega), bsome, if_neg (by simp)]

end Go.Proofs.YtbgchgjefohpoaaDoor.Pure
