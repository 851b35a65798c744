/- The pure part of FnMendBits: the Lean function of the law answers true for every argument. -/
import Derived.Test.YtkhoekcjomnaeaaDoorPx10
import Derived.Test.YtkhoekcjomnaeaaDoorPx12
import Derived.Test.YtkhoekcjomnaeaaDoorPx13
import Derived.Test.YtkhoekcjomnaeaaDoorQG
namespace Go.Proofs.YtkhoekcjomnaeaaDoor.Pure
open Go.RowKit Go.Proofs.YtkhoekcjomnaeaaDoor.P Go.Proofs.YtkhoekcjomnaeaaDoorW.PrintWords Go.Proofs.YtkhoekcjomnaeaaDoorW.PrintLast
set_option linter.unusedVariables false
set_option linter.unusedSimpArgs false

/-- One of some strings, picked. -/
theorem of_some {b : List Int} {p n : Int} (h : RS b p n) (hn : n ≤ 1000000000) (l : List ByteArray) (hl : 1 ≤ l.length) (hm : l.length ≤ 1000000) : ∃ r, (∀ k, 1 ≤ k → spec_reader_of.f k b p l = some (r, p + 1)) ∧ r ∈ l ∧ RS b (p + 1) (n + 1) := by
  obtain ⟨r, hr, r0, r1, hR⟩ := pick_some h hn (l.length : Int) (by omega)
  have r2 := r1 (by omega)
  refine ⟨rdOf ByteArray.empty l r, fun k hk => ?_, ?_, hR⟩
  · unfold spec_reader_of.f
    rw [hr k hk, bsome]
    rw [if_pos r0, if_pos r2]
  · unfold rdOf
    rw [List.getD_eq_getElem?_getD, List.getElem?_eq_getElem (by omega)]
    exact List.getElem_mem _

theorem drawM_l0 {b : List Int} : ∀ (d k : Nat) (s : ByteArray) (p n : Int), RS b p n → n ≤ 1000 - d → 7 - s.size = d → s.size ≤ 7 → d + 4 ≤ k → ∃ t, spec_DrawMendBits.l0 k s b p = some t ∧ t.size ≤ 8 := by
  intro d
  induction d with
  | zero =>
    intro k s p n hR hn hd hs hk
    obtain ⟨k, rfl⟩ : ∃ m, k = m + 1 := ⟨k - 1, by omega⟩
    simp only [spec_DrawMendBits.l0]
    rw [if_neg (by omega)]
    obtain ⟨r, hr, _, _, hR1⟩ := pick_some hR (by omega) 12 (by omega)
    rw [hr k (by omega), bsome]
    simp only []
    by_cases h0 : r = 0
    · rw [if_pos h0, if_pos (by decide), if_pos (show (6 : Int) ≤ (s.size : Int) by omega)]
      obtain ⟨t, ht, hm, _⟩ := of_some hR1 (by omega) ([(⟨#[]⟩ : ByteArray), (⟨#[120]⟩ : ByteArray)]) (by simp) (by simp)
      have h1 : t.size ≤ 1 := by
        simp only [List.mem_cons, List.not_mem_nil, or_false] at hm
        rcases hm with rfl | rfl <;> decide
      have h2 : (s.extract 0 6).size ≤ 6 := by rw [ByteArray.size_extract]; omega
      rw [ht k (by omega), bsome]
      simp only []
      rw [if_pos (by omega)]
      exact ⟨_, rfl, by rw [ByteArray.size_append]; omega⟩
    · rw [if_neg h0]
      exact ⟨_, rfl, by omega⟩
  | succ d ih =>
    intro k s p n hR hn hd hs hk
    obtain ⟨k, rfl⟩ : ∃ m, k = m + 1 := ⟨k - 1, by omega⟩
    simp only [spec_DrawMendBits.l0]
    rw [if_pos (by omega)]
    obtain ⟨t, ht, hm, hR1⟩ := of_some hR (by omega) ([(⟨#[48]⟩ : ByteArray), (⟨#[49]⟩ : ByteArray)]) (by simp) (by simp)
    have h1 : t.size = 1 := by
      simp only [List.mem_cons, List.not_mem_nil, or_false] at hm
      rcases hm with rfl | rfl <;> rfl
    rw [ht k (by omega), bsome]
    simp only []
    rw [if_pos (by omega)]
    have h2 : (s ++ t).size = s.size + 1 := by rw [ByteArray.size_append, h1]
    exact ih k (s ++ t) (p + 1) (n + 1) hR1 (by omega) (by omega) (by omega) (by omega)
theorem FnMendBits : laws_FnMendBits.Pure := by
  intro l _ _ hw
  refine ⟨300, ?_⟩
  unfold laws_FnMendBits.f
  split
  · rfl
  · obtain ⟨b, hb, hR⟩ := newReader_some l hw
    unfold spec_DrawMendBits.f
    obtain ⟨s, hs, h5⟩ := drawM_l0 7 300 (⟨#[]⟩ : ByteArray) 0 0 hR (by omega) rfl (by decide) (by omega)
    rw [hb, bsome]
    simp only []
    rw [hs, bsome, implM_some s (by omega), bsome, specM_some s (by omega) 300 (Or.inl rfl), bsome, if_pos rfl, if_pos rfl, show (300 : Nat) = 299 + 1 by rfl]
    simp only [laws_FnMendBits.j0]
    by_cases h : okBits s = true ∧ s.size = 7
    · have e : mB s = M s := by unfold mB; rw [if_pos h]
      rw [e]
      obtain ⟨m, rfl, hlen, hm⟩ := bits_list s h.1 7 h.2
      obtain ⟨_, g1, g2, g3, g4, g5⟩ := chk3_of m hm
      rw [if_neg (by simp; omega), implG_some _ (by omega), bsome, if_pos (show okBits (M (ob m)).1 = true ∧ (M (ob m)).1.size = 4 from ⟨g1, g2⟩), g5]
      by_cases h0 : (M (ob m)).2 = 0
      · rw [if_pos h0, if_pos h0]
        simp
      · rw [if_neg h0, if_neg h0]
        have e2 : wrap64 ((M (ob m)).2 - 1) = ((((M (ob m)).2 - 1).toNat : Nat) : Int) := by rw [w64 (by omega) (by omega)]; omega
        have ht := turnBit_some (ob m) (okBits_ob m) (by rw [ob_len]; omega) ((M (ob m)).2 - 1).toNat (by rw [ob_len]; omega)
        rw [bo_ob, ob_len, hlen] at ht
        rw [e2, ht, bsome]
        simp
    · have e : mB s = (tb [], -1) := by unfold mB; rw [if_neg h]
      rw [e]
      simp only []
      rw [if_pos (by decide), if_pos trivial]
      rfl

end Go.Proofs.YtkhoekcjomnaeaaDoor.Pure
