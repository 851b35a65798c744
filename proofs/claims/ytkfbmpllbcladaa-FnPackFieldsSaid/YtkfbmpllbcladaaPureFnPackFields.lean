/- The law FnPackFields returns true for every code: conditions: the code is bytes, and as long as an argument may be. -/
import Derived.Test.YtkfbmpllbcladaaPx26
import Derived.Test.YtkfbmpllbcladaaPx30
import Derived.Test.YtkfbmpllbcladaaQDF
namespace Go.Proofs.Ytkfbmpllbcladaa.Pure
open Go.RowKit Go.Proofs.Ytkfbmpllbcladaa.P Go.Proofs.YtkfbmpllbcladaaW.PrintWords Go.Proofs.YtkfbmpllbcladaaW.PrintLast
set_option linter.unusedVariables false
set_option linter.unusedSimpArgs false

theorem drawPack_some (code : List Int) (h : ∀ x ∈ code, (Lit.int .u8 x).wf = true) : ∃ l, (∀ k, 3000 ≤ k → spec_DrawPackFields.f k code = some l) ∧ l.length ≤ 6 ∧ ∀ f ∈ l, f.f1.length ≤ 33 := by
  obtain ⟨b, hb, hR⟩ := newReader_some code h
  obtain ⟨r, p1, e1, e2, e3, _⟩ := someFields_some hR (by omega)
  refine ⟨r, fun k hk => ?_, e2, e3⟩
  unfold spec_DrawPackFields.f
  rw [hb]
  simp only [bsome]
  rw [e1 k (by omega)]
  rfl

theorem FnPackFields : laws_FnPackFields.Pure := by
  intro code hm hs hw
  by_cases hlong : (code.length : Int) > 1048576
  · exact ⟨0, by unfold laws_FnPackFields.f; rw [if_pos hlong]⟩
  · obtain ⟨l, hl, hlen, hbs⟩ := drawPack_some code hw
    refine ⟨5000001, ?_⟩
    have hb6 : ∀ f ∈ l, f.f1.length ≤ 1000000 := fun f hf => by have := hbs f hf; omega
    have hpl : (packOf l).length ≤ 1000 := by
      unfold packOf; split
      · rename_i h
        simp only [okFs, Bool.and_eq_true, decide_eq_true_eq] at h
        have := pack_le l h.2; omega
      · simp
    unfold laws_FnPackFields.f
    rw [if_neg hlong, hl _ (by omega)]
    simp only [bsome]
    rw [implPack_some l _ (by omega)]
    simp only [bsome]
    rw [specPack_some l (by omega) hb6 _ (by omega)]
    simp only [bsome]
    rw [equalInts_some _ _ (by omega) _ (by omega)]
    simp only [bsome, decide_true, if_true]
    simp only [laws_FnPackFields.j0]
    by_cases h0 : ((packOf l).length : Int) = 0
    · have e0 : (((packOf l).length : Int) == 0) = true := by simpa using h0
      rw [e0, if_pos rfl, specPack_some l (by omega) hb6 _ (by omega)]
      simp only [bsome]
      rw [equalInts_some _ _ (by omega) _ (by omega)]
      simp
    · have e0 : (((packOf l).length : Int) == 0) = false := by simpa using h0
      rw [e0, if_neg (by simp)]
      have hok : okFs l = true := by
        unfold packOf at h0
        by_cases h : okFs l = true
        · exact h
        · rw [if_neg h] at h0; simp at h0
      have hp : packOf l = pack l := by unfold packOf; rw [if_pos hok]
      rw [implUnpack_some _ (by omega) _ (by omega), hp, implUnpackOf_pack hok]
      simp only [bsome, if_true]
      rw [equalFields_self l (by omega) hb6 _ (by omega)]
      rfl

end Go.Proofs.Ytkfbmpllbcladaa.Pure
