/- The pure part of FnExactSealBits: the Lean function of the law answers true for every argument. -/
import Derived.Test.YtmkcmkkpeimldaaDoorPx12
import Derived.Test.YtmkcmkkpeimldaaDoorQSe
namespace Go.Proofs.YtmkcmkkpeimldaaDoor.Pure
open Go.RowKit Go.Proofs.YtmkcmkkpeimldaaDoor.P Go.Proofs.YtmkcmkkpeimldaaDoorW.PrintWords Go.Proofs.YtmkcmkkpeimldaaDoorW.PrintLast
set_option linter.unusedVariables false
set_option linter.unusedSimpArgs false

theorem FnExactSealBits : laws_FnExactSealBits.Pure := by
  intro p s hp hs
  refine ⟨3000000, ?_⟩
  unfold laws_FnExactSealBits.f
  split
  · rfl
  · split
    · rfl
    · rw [specSeal_some p s (by omega) (by omega) _ (by omega), bsome, implSeal_some p s (by omega) (by omega) _ (by omega), bsome, if_pos rfl]

end Go.Proofs.YtmkcmkkpeimldaaDoor.Pure
