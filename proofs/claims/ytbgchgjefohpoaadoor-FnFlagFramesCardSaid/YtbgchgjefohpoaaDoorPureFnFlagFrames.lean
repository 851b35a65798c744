/- The pure part of FnFlagFrames: the Lean function of the law answers true for every argument. -/
import Derived.Test.YtbgchgjefohpoaaDoorPx29
import Derived.Test.YtbgchgjefohpoaaDoorPx31
import Derived.Test.YtbgchgjefohpoaaDoorQFL
namespace Go.Proofs.YtbgchgjefohpoaaDoor.Pure
open Go.RowKit Go.Proofs.YtbgchgjefohpoaaDoor.P Go.Proofs.YtbgchgjefohpoaaDoorW.PrintWords Go.Proofs.YtbgchgjefohpoaaDoorW.PrintLast
set_option linter.unusedVariables false
set_option linter.unusedSimpArgs false

theorem FnFlagFrames : laws_FnFlagFrames.Pure := by
  intro l _ _ hw
  refine ⟨200001, ?_⟩
  unfold laws_FnFlagFrames.f
  split
  · rfl
  · obtain ⟨b, hb, hR⟩ := newReader_some l hw
    obtain ⟨t, q, h1, h2, h3, h4⟩ := someFrames_some hR (by omega) 200001 (by omega)
    unfold spec_DrawFlagFrames.f
    rw [hb, bsome]
    simp only []
    rw [h1, bsome, bsome, implFl_some t (fun s hs => by have := (h4 s hs).1; omega) _ (by omega), bsome, specFl_some t (by omega) (fun s hs => by have := (h4 s hs).1; omega) _ (by omega), bsome, if_pos rfl, show (200001 : Nat) = 200000 + 1 by rfl]
    simp only [laws_FnFlagFrames.j0]
    by_cases h : t.all okF = true ∧ t.length ≤ 4
    · have e : fl t = tb (FL ++ cat t) := by unfold fl; rw [if_pos h]
      have hc := cat_len t 12 (fun s hs => (h4 s hs).2 (List.all_eq_true.1 h.1 s hs)) h.1
      have hcb := cat_bits t h.1
      have h8 : FL.length = 8 := rfl
      have hFb : (FL ++ cat t).all isBit = true := by rw [List.all_append, hcb]; rfl
      have hlen : (FL ++ cat t).length ≤ 100 := by rw [List.length_append, h8]; omega
      have hsz : (tb (FL ++ cat t)).size ≤ 100 := by rw [tb_len]; exact hlen
      have hne : ((tb (FL ++ cat t)).toList == ([] : List UInt8)) = false := by
        rw [beq_eq_false_iff_ne]
        intro e
        have := (toList_nil_iff _).1 e
        rw [tb_len, List.length_append, h8] at this
        omega
      have hf1 : fnd (tb (FL ++ cat t)) = t := by
        unfold fnd
        rw [if_pos ⟨by omega, okBits_tb hFb⟩, bl_tb_bits hFb, tb_len, pcs_flag _ _ (by omega), List.tail_cons]
        have := pcs_cat t ((FL ++ cat t).length + 1) [] h.1 (by simp; omega)
        rw [List.append_nil] at this
        rw [this, Gf_cat t _ h.1 (pcs_ne FL _ _ _)]
        simp [pcs, Gf]
      have hbb : (FL ++ cat t ++ (FL ++ cat t)).all isBit = true := by rw [List.all_append, hFb]; rfl
      have hf2 : (fnd (tb (FL ++ cat t) ++ tb (FL ++ cat t))).length = 2 * t.length := by
        rw [← tb_append]
        unfold fnd
        have hl2 : (FL ++ cat t ++ (FL ++ cat t)).length = (FL ++ cat t).length + (FL ++ cat t).length := List.length_append
        rw [if_pos ⟨by rw [tb_len]; omega, okBits_tb hbb⟩, bl_tb_bits hbb, tb_len, List.append_assoc, pcs_flag _ _ (by rw [← List.append_assoc]; omega), List.tail_cons]
        have hN : (cat t ++ (FL ++ cat t)).length < (FL ++ (cat t ++ (FL ++ cat t))).length + 1 := by simp [List.length_append]; omega
        have g1 := pcs_cat t ((FL ++ (cat t ++ (FL ++ cat t))).length + 1) (FL ++ cat t) h.1 hN
        have g2 := pcs_flag ((FL ++ (cat t ++ (FL ++ cat t))).length + 1) (cat t) (by simp only [List.length_append] at hN ⊢; omega)
        have g3 := pcs_cat t ((FL ++ (cat t ++ (FL ++ cat t))).length + 1) [] h.1 (by simp only [List.length_append, List.length_nil] at hN ⊢; omega)
        rw [List.append_nil] at g3
        rw [g1, g2, g3, Gf_cat t _ h.1 (by simp), Gf_cons _ _ (by simp [pcs_ne]), if_pos rfl, Gf_cat t _ h.1 (pcs_ne FL _ _ _)]
        simp [pcs, Gf]
        omega
      rw [e, hne]
      simp only [Bool.false_eq_true, if_false]
      rw [implF_some _ (by omega) _ (by omega), bsome, hf1, eqTexts_some t (by omega) _ (by omega), bsome]
      simp only [if_true]
      rw [if_pos (by omega), implF_some _ (by rw [ByteArray.size_append]; omega) _ (by omega), bsome, hf2, w64 (by omega) (by omega)]
      simp
    · have e : fl t = tb [] := by unfold fl; rw [if_neg h]
      rw [e, if_pos (by rw [(toList_nil_iff (tb [])).2 rfl]; rfl), specFl_some t (by omega) (fun s hs => by have := (h4 s hs).1; omega) _ (by omega), bsome, e]
      simp

end Go.Proofs.YtbgchgjefohpoaaDoor.Pure
