/- The pure part of FnExactCycleOf: the Lean function of the law answers true for every argument. -/
import Derived.Test.YtmkcmkkpeimldaaDoorPx13
import Derived.Test.YtmkcmkkpeimldaaDoorQC
namespace Go.Proofs.YtmkcmkkpeimldaaDoor.Pure
open Go.RowKit Go.Proofs.YtmkcmkkpeimldaaDoor.P Go.Proofs.YtmkcmkkpeimldaaDoorW.PrintWords Go.Proofs.YtmkcmkkpeimldaaDoorW.PrintLast
set_option linter.unusedVariables false
set_option linter.unusedSimpArgs false

theorem FnExactCycleOf : laws_FnExactCycleOf.Pure := by
  intro p hp
  refine ⟨3000000, ?_⟩
  unfold laws_FnExactCycleOf.f
  split
  · rfl
  · obtain ⟨c, h1, _, _⟩ := cyc_some p (by omega)
    obtain ⟨g1, g2⟩ := h1 3000000 (by omega)
    rw [g2, bsome, g1, bsome, if_pos rfl]

end Go.Proofs.YtmkcmkkpeimldaaDoor.Pure
