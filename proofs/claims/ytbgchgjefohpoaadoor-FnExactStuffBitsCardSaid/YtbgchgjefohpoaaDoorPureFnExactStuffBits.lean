/- Both programs stuff bits alike. -/
import Derived.Test.YtbgchgjefohpoaaDoorPx3
import Derived.Test.YtbgchgjefohpoaaDoorPx4
import Derived.Test.YtbgchgjefohpoaaDoorQB
namespace Go.Proofs.YtbgchgjefohpoaaDoor.Pure
open Go.RowKit Go.Proofs.YtbgchgjefohpoaaDoor.P Go.Proofs.YtbgchgjefohpoaaDoorW.PrintWords Go.Proofs.YtbgchgjefohpoaaDoorW.PrintLast
set_option linter.unusedVariables false
set_option linter.unusedSimpArgs false

theorem FnExactStuffBits : laws_FnExactStuffBits.Pure := by
  intro s hs
  by_cases h : (s.size : Int) > 1048576
  · exact ⟨1, by unfold laws_FnExactStuffBits.f; rw [if_pos h]⟩
  · refine ⟨2000000, ?_⟩
    unfold laws_FnExactStuffBits.f
    rw [if_neg h]
    by_cases h2 : s.size ≤ 1000000
    · rw [specS_some s h2 _ (by omega), bsome, implS_some s h2 _ (by omega), bsome, if_pos rfl]
    · unfold spec_StuffBits.f impl_StuffBits.f
      rw [validBits_some s (by omega) _ (by omega), bsome, if_neg (by simp; omega), bsome, valid_some s (by omega), bsome, if_neg (by simp; omega), bsome, if_pos rfl]

end Go.Proofs.YtbgchgjefohpoaaDoor.Pure
