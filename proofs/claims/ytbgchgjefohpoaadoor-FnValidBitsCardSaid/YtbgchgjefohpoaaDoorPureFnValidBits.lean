/- The pure part of FnValidBits: the Lean function of the law answers true for every argument. -/
import Derived.Test.YtbgchgjefohpoaaDoorPx1
import Derived.Test.YtbgchgjefohpoaaDoorPx26
import Derived.Test.YtbgchgjefohpoaaDoorQD
namespace Go.Proofs.YtbgchgjefohpoaaDoor.Pure
open Go.RowKit Go.Proofs.YtbgchgjefohpoaaDoor.P Go.Proofs.YtbgchgjefohpoaaDoorW.PrintWords Go.Proofs.YtbgchgjefohpoaaDoorW.PrintLast
set_option linter.unusedVariables false
set_option linter.unusedSimpArgs false

theorem FnValidBits : laws_FnValidBits.Pure := by
  intro l _ _ hw
  obtain ⟨s, hs, hl⟩ := drawV_some l hw 200 (by omega)
  refine ⟨200, ?_⟩
  unfold laws_FnValidBits.f
  split
  · rfl
  · rw [hs, bsome, valid_some s (by omega), bsome]
    unfold spec_ValidBits.f
    rw [validBits_some s (by omega) _ (by omega), bsome, bsome, if_neg (by simp)]
    cases hv : (okBits s && decide (s.size ≤ 40)) with
    | false =>
      simp only [Bool.not_false, laws_FnValidBits.j0, if_true]
      unfold spec_ValidBits.f
      rw [validBits_some s (by omega) _ (by omega), bsome, bsome, hv]
      rfl
    | true =>
      simp only [Bool.not_true, laws_FnValidBits.j0, Bool.false_eq_true, if_false]
      by_cases h0 : s.toList = ([] : List UInt8)
      · rw [if_pos h0]
      · have h1 : s.size ≠ 0 := fun h => h0 ((toList_nil_iff s).2 h)
        simp only [Bool.and_eq_true, decide_eq_true_eq] at hv
        have hlen : (s.extract 1 s.size).size ≤ 40 := by rw [ByteArray.size_extract]; omega
        have hb : okBits (s.extract 1 s.size) = true := by
          unfold okBits
          rw [bl_extract]
          have h2 := hv.1
          unfold okBits at h2
          rw [List.all_eq_true] at h2 ⊢
          exact fun x hx => h2 x (List.mem_of_mem_drop (List.mem_of_mem_take hx))
        rw [if_neg h0, if_pos (by omega), valid_some _ (by omega), bsome, hb]
        simpa using hlen

end Go.Proofs.YtbgchgjefohpoaaDoor.Pure
