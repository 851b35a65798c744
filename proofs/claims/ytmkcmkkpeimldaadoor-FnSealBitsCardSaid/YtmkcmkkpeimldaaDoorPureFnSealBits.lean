/- The pure part of FnSealBits: the Lean function of the law answers true for every argument. -/
import Derived.Test.YtmkcmkkpeimldaaDoorPx30
import Derived.Test.YtmkcmkkpeimldaaDoorPx31
import Derived.Test.YtmkcmkkpeimldaaDoorQD
import Derived.Test.YtmkcmkkpeimldaaDoorQT
namespace Go.Proofs.YtmkcmkkpeimldaaDoor.Pure
open Go.RowKit Go.Proofs.YtmkcmkkpeimldaaDoor.P Go.Proofs.YtmkcmkkpeimldaaDoorW.PrintWords Go.Proofs.YtmkcmkkpeimldaaDoorW.PrintLast
set_option linter.unusedVariables false
set_option linter.unusedSimpArgs false

theorem sealed (p s : ByteArray) (h : okPoly p = true ∧ okBits s = true ∧ s.size + (p.size - 1) ≤ 40) : isB p (sB p s) = true ∧ (sB p s).size = s.size + (p.size - 1) ∧ okBits (sB p s) = true ∧ (sB p s).extract 0 s.size = s := by
  have hz := okPoly_size h.1
  have e : sB p s = s ++ restB p (s ++ ob (Crc.zer (p.size - 1))) := by unfold sB; rw [if_pos h]
  have hsz : (sB p s).size = s.size + (p.size - 1) := by rw [e, ByteArray.size_append, restB_len]
  have hok : okBits (sB p s) = true := by rw [e, okBits_append, h.2.1]; exact okBits_ob _
  refine ⟨isB_of h.1 hok (by omega) (by omega) ?_, hsz, hok, ?_⟩
  · rw [e, bo_append]
    have hb : bo (restB p (s ++ ob (Crc.zer (p.size - 1)))) = Crc.rst (pt p) (bo s ++ Crc.zer (p.size - 1)) := by unfold restB; rw [bo_ob, bo_append, bo_ob]
    rw [hb]
    have hl : (Crc.rst (pt p) (bo s ++ Crc.zer (p.size - 1))).length = p.size - 1 := by rw [Crc.rst_length, pt_len]
    have ex : bo s ++ Crc.rst (pt p) (bo s ++ Crc.zer (p.size - 1)) = Crc.xorL (bo s ++ Crc.zer (p.size - 1)) (Crc.zer s.size ++ Crc.rst (pt p) (bo s ++ Crc.zer (p.size - 1))) := by
      rw [Crc.xorL_append _ _ _ _ (by rw [bo_len]; simp [Crc.zer]), Crc.xorL_zer _ _ (by rw [bo_len])]
      have := xor_zer_left (Crc.rst (pt p) (bo s ++ Crc.zer (p.size - 1)))
      rw [hl] at this
      rw [this]
    rw [ex, Crc.rst_xor _ _ _ (by rw [List.length_append, List.length_append, bo_len, hl]; simp [Crc.zer]), Crc.rst_zer_append, Crc.rst_full (s := Crc.rst (pt p) (bo s ++ Crc.zer (p.size - 1))) (by rw [hl, pt_len]), Crc.xorL_self, Crc.rst_length]
  · rw [e]
    refine bo_inj (okBits_extract _ (by rw [okBits_append, h.2.1]; exact okBits_ob _) _ _) h.2.1 ?_
    rw [bo_extract, bo_append, List.drop_zero, Nat.sub_zero, List.take_left' (by rw [bo_len])]
theorem sealLaw_l0 (p s : ByteArray) (h : okPoly p = true ∧ okBits s = true ∧ s.size + (p.size - 1) ≤ 40) : ∀ (d j k : Nat), (sB p s).size - j = d → j ≤ (sB p s).size → d < k → laws_FnSealBits.l0 k p s (sB p s) (j : Int) = some true := by
  have hz := okPoly_size h.1
  obtain ⟨g1, g2, g3, g4⟩ := sealed p s h
  intro d
  induction d with
  | zero =>
    intro j k hd hj hk
    obtain ⟨k, rfl⟩ : ∃ m, k = m + 1 := ⟨k - 1, by omega⟩
    simp only [laws_FnSealBits.l0]
    have e : wrap64 (wrap64 ((s.size : Int) + (p.size : Int)) - 1) = ((sB p s).size : Int) := by rw [w64 (n := (s.size : Int) + p.size) (by omega) (by omega), w64 (by omega) (by omega), g2]; omega
    rw [if_neg (by omega), implI_some p _ (by omega) (by omega), bsome, if_pos g1, if_pos (show (0 : Int) ≤ (s.size : Int) by omega), if_pos (show (s.size : Int) ≤ ((sB p s).size : Int) by omega), Int.toNat_natCast, g4, if_pos rfl, e]
    simp
  | succ d ih =>
    intro j k hd hj hk
    obtain ⟨k, rfl⟩ : ∃ m, k = m + 1 := ⟨k - 1, by omega⟩
    simp only [laws_FnSealBits.l0]
    rw [if_pos (by omega), turnBit_some _ g3 (by omega) j (by omega), bsome, implI_some p _ (by omega) (by rw [ob_len, Crc.xorL_length _ _ (by rw [bo_len, unit_len j _ (by omega)]), bo_len]; omega), bsome, turned_one g1 j (by omega), if_neg (by simp), w64s (by omega)]
    exact ih (j + 1) k (by omega) (by omega) (by omega)
theorem FnSealBits : laws_FnSealBits.Pure := by
  intro l _ _ hw
  obtain ⟨p, s, hd, hp, hs⟩ := drawR_some l hw 1000 (by omega)
  refine ⟨1000, ?_⟩
  unfold laws_FnSealBits.f
  split
  · rfl
  · unfold spec_DrawSealBits.f
    rw [hd, bsome, bsome]
    simp only []
    rw [implSeal_some p s (by omega) (by omega) _ (by omega), bsome, specSeal_some p s (by omega) (by omega) _ (by omega), bsome, if_pos rfl]
    simp only [laws_FnSealBits.j0]
    by_cases h : okPoly p = true ∧ okBits s = true ∧ s.size + (p.size - 1) ≤ 40
    · have hz := okPoly_size h.1
      obtain ⟨g1, g2, g3, g4⟩ := sealed p s h
      rw [if_neg (by
        intro x
        have := (toList_nil_iff (sB p s)).1 (by simpa using x)
        omega)]
      exact sealLaw_l0 p s h _ 0 _ rfl (by omega) (by omega)
    · have e : sB p s = tb [] := by unfold sB; rw [if_neg h]
      rw [e, if_pos (by rw [nil_toList]; rfl), specSeal_some p s (by omega) (by omega) _ (by omega), bsome, e]
      simp

end Go.Proofs.YtmkcmkkpeimldaaDoor.Pure
