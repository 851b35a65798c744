/- The pure part of FnExactGuardBits: the Lean function of the law answers true for every argument. -/
import Derived.Test.YtkhoekcjomnaeaaDoorPx4
import Derived.Test.YtkhoekcjomnaeaaDoorQG
namespace Go.Proofs.YtkhoekcjomnaeaaDoor.Pure
open Go.RowKit Go.Proofs.YtkhoekcjomnaeaaDoor.P Go.Proofs.YtkhoekcjomnaeaaDoorW.PrintWords Go.Proofs.YtkhoekcjomnaeaaDoorW.PrintLast
set_option linter.unusedVariables false
set_option linter.unusedSimpArgs false

theorem FnExactGuardBits : laws_FnExactGuardBits.Pure := by
  intro s hs
  by_cases hb : s.size ≤ 250
  · refine ⟨300, ?_⟩
    unfold laws_FnExactGuardBits.f
    rw [if_neg (by omega), specG_some s hb 300 (Or.inl rfl), bsome, implG_some s (by omega), bsome, if_pos rfl]
  · refine ⟨2000000, ?_⟩
    unfold laws_FnExactGuardBits.f
    split
    · rfl
    · unfold spec_GuardBits.f
      rw [validBits_some s (by omega) _ (by omega), bsome, if_neg (by simp; omega), bsome, implG_some s (by omega), bsome, if_neg (show ¬ (okBits s = true ∧ s.size = 4) from fun h => by omega), show (⟨#[]⟩ : ByteArray) = tb [] from rfl, if_pos rfl]

end Go.Proofs.YtkhoekcjomnaeaaDoor.Pure
