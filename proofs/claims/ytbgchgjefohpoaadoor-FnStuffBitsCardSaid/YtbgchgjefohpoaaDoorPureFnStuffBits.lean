/- The pure part of FnStuffBits: the Lean function of the law answers true for every argument. -/
import Derived.Test.YtbgchgjefohpoaaDoorPx26
import Derived.Test.YtbgchgjefohpoaaDoorPx27
import Derived.Test.YtbgchgjefohpoaaDoorQU
import Derived.Test.YtbgchgjefohpoaaDoorQD
namespace Go.Proofs.YtbgchgjefohpoaaDoor.Pure
open Go.RowKit Go.Proofs.YtbgchgjefohpoaaDoor.P Go.Proofs.YtbgchgjefohpoaaDoorW.PrintWords Go.Proofs.YtbgchgjefohpoaaDoorW.PrintLast
set_option linter.unusedVariables false
set_option linter.unusedSimpArgs false

/-! Rows of ones in stuffed bits. -/
def rok : Int → List Int → Bool
  | _, [] => true
  | n, c :: r => if (if c = 48 then (0 : Int) else n + 1) > 5 then false else rok (if c = 48 then 0 else n + 1) r
theorem rok_stf : ∀ (l : List Int) (n : Int), l.all isBit = true → 0 ≤ n → n ≤ 4 → rok n (stf n l) = true
  | [], n, h, h0, h1 => by simp [stf, rok]
  | c :: r, n, h, h0, h1 => by
    simp only [List.all_cons, Bool.and_eq_true] at h
    unfold stf
    by_cases hc : c = 49
    · subst hc
      rw [if_pos rfl]
      by_cases h5 : n + 1 = 5
      · rw [if_pos h5, rok, if_neg (show ¬ (49 : Int) = 48 by decide), if_neg (show ¬ n + 1 > 5 by omega), rok, if_pos rfl, if_neg (show ¬ (0 : Int) > 5 by decide), rok_stf r 0 h.2 (by omega) (by omega)]
      · rw [if_neg h5, rok, if_neg (show ¬ (49 : Int) = 48 by decide), if_neg (show ¬ n + 1 > 5 by omega), rok_stf r (n + 1) h.2 (by omega) (by omega)]
    · have h48 : c = 48 := by
        have := (isBit_iff c).1 h.1
        omega
      rw [if_neg hc, rok, if_pos h48, if_neg (show ¬ (0 : Int) > 5 by decide), rok_stf r 0 h.2 (by omega) (by omega)]

theorem drawS_some (l : List Int) (h : ∀ x ∈ l, (Lit.int .u8 x).wf = true) (k : Nat) (hk : 100 ≤ k) : ∃ t, spec_DrawStuffBits.f k l = some t ∧ t.size ≤ 81 := by
  obtain ⟨b, hb, hR⟩ := newReader_some l h
  unfold spec_DrawStuffBits.f
  rw [hb, bsome]
  obtain ⟨t, q, h1, h2, _⟩ := someBits_some hR (by omega) 40 k hk
  simp only []
  rw [h1, bsome]
  exact ⟨t, rfl, h2⟩
theorem uout_sout (s : ByteArray) (hb : okBits s = true) (h4 : s.size ≤ 40) : uout (tb (stf 0 (bl s))) = (s, true) := by
  have h0 : (bl s).all isBit = true := hb
  have h1 := stf_bits (bl s) 0 h0
  have h2 := uim_stf (bl s) 0 h0 (by omega) (by omega)
  have h3 := stf_len (bl s) 0 (by omega) (by omega)
  rw [bl_len] at h3
  have e : bl (tb (stf 0 (bl s))) = stf 0 (bl s) := bl_tb_bits h1
  unfold uout
  rw [e, h2, if_pos, tb_bl]
  refine ⟨by rw [tb_len]; omega, okBits_tb h1, ?_, ?_⟩
  · rw [e, h2, bl_len]; exact h4
  · rw [e, h2]
theorem stuffLaw_l0 (x3 x4 : ByteArray) (h4 : x4.size ≤ 1000) (hu : uout x4 = (x3, true)) (hsz : (x4.size : Int) ≤ x3.size + x3.size / 5) (h3 : x3.size ≤ 1000) :
    ∀ (d j k : Nat) (n : Int), x4.size - j = d → j ≤ x4.size → rok n ((bl x4).drop j) = true → 0 ≤ n → n ≤ 5 → d + 3001 < k → laws_FnStuffBits.l0 k x3 x4 n (j : Int) = some true := by
  intro d
  induction d with
  | zero =>
    intro j k n hd hj hr h0 h1 hk
    obtain ⟨k, rfl⟩ : ∃ m, k = m + 1 := ⟨k - 1, by omega⟩
    simp only [laws_FnStuffBits.l0]
    rw [if_neg (by omega), implU_some _ (by omega) _ (by omega), bsome, hu]
    simp only [if_true]
    rw [w64 (n := (x3.size : Int) / 5) (by omega) (by omega), w64 (by omega) (by omega), decide_eq_true hsz]
  | succ d ih =>
    intro j k n hd hj hr h0 h1 hk
    obtain ⟨k, rfl⟩ : ∃ m, k = m + 1 := ⟨k - 1, by omega⟩
    simp only [laws_FnStuffBits.l0]
    rw [bl_drop x4 j (by omega), rok] at hr
    rw [if_pos (by omega), if_pos (by omega), w64s (by omega), w64 (n := n + 1) (by omega) (by omega)]
    generalize bt x4 (j : Int) = c at hr ⊢
    by_cases hc : c = 48
    · rw [if_pos hc] at hr ⊢
      rw [if_neg (show ¬ (0 : Int) > 5 by decide)] at hr
      rw [if_neg (by decide)]
      exact ih (j + 1) k 0 (by omega) (by omega) hr (by omega) (by omega) (by omega)
    · rw [if_neg hc] at hr ⊢
      by_cases h6 : n + 1 > 5
      · rw [if_pos h6] at hr; cases hr
      · rw [if_neg h6] at hr
        rw [if_neg h6]
        exact ih (j + 1) k (n + 1) (by omega) (by omega) hr (by omega) (by omega) (by omega)
theorem FnStuffBits : laws_FnStuffBits.Pure := by
  intro l _ _ hw
  obtain ⟨s, hs, hl⟩ := drawS_some l hw 4000 (by omega)
  refine ⟨4000, ?_⟩
  unfold laws_FnStuffBits.f
  split
  · rfl
  · rw [hs, bsome, implS_some s (by omega) _ (by omega), bsome, specS_some s (by omega) _ (by omega), bsome, if_pos rfl, valid_some s (by omega), bsome]
    simp only [laws_FnStuffBits.j0]
    by_cases hv : okBits s = true ∧ s.size ≤ 40
    · rw [if_neg (by simp [hv.1, hv.2])]
      have h1 := stf_len (bl s) 0 (by omega) (by omega)
      rw [bl_len] at h1
      have hb : (bl s).all isBit = true := hv.1
      have e : sout s = tb (stf 0 (bl s)) := by unfold sout; rw [if_pos hv]
      rw [e]
      exact stuffLaw_l0 s _ (by rw [tb_len]; omega) (uout_sout s hv.1 hv.2) (by rw [tb_len]; omega) (by omega) _ 0 _ 0 rfl (by omega)
        (by rw [List.drop_zero, bl_tb_bits (stf_bits _ _ hb)]; exact rok_stf _ _ hb (by omega) (by omega)) (by omega) (by omega) (by rw [tb_len]; omega)
    · have hv2 : (!(okBits s && decide (s.size ≤ 40))) = true := by
        cases h1 : okBits s with
        | false => rfl
        | true =>
          have h2 : ¬ s.size ≤ 40 := fun h => hv ⟨h1, h⟩
          simp [h2]
      rw [if_pos hv2, specS_some s (by omega) _ (by omega), bsome]
      simp

end Go.Proofs.YtbgchgjefohpoaaDoor.Pure
