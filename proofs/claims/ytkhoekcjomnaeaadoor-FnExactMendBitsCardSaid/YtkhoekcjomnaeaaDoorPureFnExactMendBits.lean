/- The pure part of FnExactMendBits: the Lean function of the law answers true for every argument. -/
import Derived.Test.YtkhoekcjomnaeaaDoorPx6
import Derived.Test.YtkhoekcjomnaeaaDoorPx7
import Derived.Test.YtkhoekcjomnaeaaDoorQG
namespace Go.Proofs.YtkhoekcjomnaeaaDoor.Pure
open Go.RowKit Go.Proofs.YtkhoekcjomnaeaaDoor.P Go.Proofs.YtkhoekcjomnaeaaDoorW.PrintWords Go.Proofs.YtkhoekcjomnaeaaDoorW.PrintLast
set_option linter.unusedVariables false
set_option linter.unusedSimpArgs false

theorem FnExactMendBits : laws_FnExactMendBits.Pure := by
  intro s hs
  by_cases hb : s.size ≤ 250
  · refine ⟨300, ?_⟩
    unfold laws_FnExactMendBits.f
    rw [if_neg (by omega), specM_some s hb 300 (Or.inl rfl), bsome, implM_some s (by omega), bsome, if_pos rfl, if_pos rfl]
  · refine ⟨2000000, ?_⟩
    unfold laws_FnExactMendBits.f
    split
    · rfl
    · have e : ∀ k, 2000000 ≤ k → spec_MendBits.f k s = some (tb [], -1) := by
        intro k hk
        obtain ⟨k, rfl⟩ : ∃ m, k = m + 1 := ⟨k - 1, by omega⟩
        unfold spec_MendBits.f
        rw [validBits_some s (by omega) _ (by omega), bsome, if_neg (by simp; omega)]
        simp only [spec_MendBits.j0, if_true]
        rfl
      rw [e _ (Nat.le_refl _), bsome, implM_some s (by omega), bsome]
      unfold mB
      rw [if_neg (show ¬ (okBits s = true ∧ s.size = 7) from fun h => by omega), if_pos rfl, if_pos rfl]

end Go.Proofs.YtkhoekcjomnaeaaDoor.Pure
