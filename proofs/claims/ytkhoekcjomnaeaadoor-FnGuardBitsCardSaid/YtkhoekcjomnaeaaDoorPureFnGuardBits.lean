/- The pure part of FnGuardBits: the Lean function of the law answers true for every argument. -/
import Derived.Test.YtkhoekcjomnaeaaDoorPx10
import Derived.Test.YtkhoekcjomnaeaaDoorPx11
import Derived.Test.YtkhoekcjomnaeaaDoorQG
namespace Go.Proofs.YtkhoekcjomnaeaaDoor.Pure
open Go.RowKit Go.Proofs.YtkhoekcjomnaeaaDoor.P Go.Proofs.YtkhoekcjomnaeaaDoorW.PrintWords Go.Proofs.YtkhoekcjomnaeaaDoorW.PrintLast
set_option linter.unusedVariables false
set_option linter.unusedSimpArgs false

/-- One of some strings, picked. -/
theorem of_some {b : List Int} {p n : Int} (h : RS b p n) (hn : n ≤ 1000000000) (l : List ByteArray) (hl : 1 ≤ l.length) (hm : l.length ≤ 1000000) : ∃ r, (∀ k, 1 ≤ k → spec_reader_of.f k b p l = some (r, p + 1)) ∧ r ∈ l ∧ RS b (p + 1) (n + 1) := by
  obtain ⟨r, hr, r0, r1, hR⟩ := pick_some h hn (l.length : Int) (by omega)
  have r2 := r1 (by omega)
  refine ⟨rdOf ByteArray.empty l r, fun k hk => ?_, ?_, hR⟩
  · unfold spec_reader_of.f
    rw [hr k hk, bsome]
    rw [if_pos r0, if_pos r2]
  · unfold rdOf
    rw [List.getD_eq_getElem?_getD, List.getElem?_eq_getElem (by omega)]
    exact List.getElem_mem _

theorem drawG_l0 {b : List Int} : ∀ (d k : Nat) (s : ByteArray) (p n : Int), RS b p n → n ≤ 1000 - d → 4 - s.size = d → s.size ≤ 4 → d + 4 ≤ k → ∃ t, spec_DrawGuardBits.l0 k s b p = some t ∧ t.size ≤ 5 := by
  intro d
  induction d with
  | zero =>
    intro k s p n hR hn hd hs hk
    obtain ⟨k, rfl⟩ : ∃ m, k = m + 1 := ⟨k - 1, by omega⟩
    simp only [spec_DrawGuardBits.l0]
    rw [if_neg (by omega)]
    obtain ⟨r, hr, _, _, hR1⟩ := pick_some hR (by omega) 12 (by omega)
    rw [hr k (by omega), bsome]
    simp only []
    by_cases h0 : r = 0
    · rw [if_pos h0]
      obtain ⟨t, ht, hm, _⟩ := of_some hR1 (by omega) ([(⟨#[48]⟩ : ByteArray), (⟨#[120]⟩ : ByteArray)]) (by simp) (by simp)
      have h1 : t.size = 1 := by
        simp only [List.mem_cons, List.not_mem_nil, or_false] at hm
        rcases hm with rfl | rfl <;> rfl
      rw [ht k (by omega), bsome]
      simp only []
      rw [if_pos (by omega)]
      exact ⟨_, rfl, by rw [ByteArray.size_append]; omega⟩
    · rw [if_neg h0]
      exact ⟨_, rfl, by omega⟩
  | succ d ih =>
    intro k s p n hR hn hd hs hk
    obtain ⟨k, rfl⟩ : ∃ m, k = m + 1 := ⟨k - 1, by omega⟩
    simp only [spec_DrawGuardBits.l0]
    rw [if_pos (by omega)]
    obtain ⟨t, ht, hm, hR1⟩ := of_some hR (by omega) ([(⟨#[48]⟩ : ByteArray), (⟨#[49]⟩ : ByteArray)]) (by simp) (by simp)
    have h1 : t.size = 1 := by
      simp only [List.mem_cons, List.not_mem_nil, or_false] at hm
      rcases hm with rfl | rfl <;> rfl
    rw [ht k (by omega), bsome]
    simp only []
    rw [if_pos (by omega)]
    have h2 : (s ++ t).size = s.size + 1 := by rw [ByteArray.size_append, h1]
    exact ih k (s ++ t) (p + 1) (n + 1) hR1 (by omega) (by omega) (by omega) (by omega)
theorem guardLaw_l0 (l : List Bool) (hl : l ∈ Crc.all 4) (hlen : l.length = 4) : ∀ (d j k : Nat), 7 - j = d → j ≤ 7 → d < k → laws_FnGuardBits.l0 k (ob l) (G l) (j : Int) = some true := by
  obtain ⟨_, g1, g2, g3, g4⟩ := chk1_of l hl
  intro d
  induction d with
  | zero =>
    intro j k hd hj hk
    obtain ⟨k, rfl⟩ : ∃ m, k = m + 1 := ⟨k - 1, by omega⟩
    simp only [laws_FnGuardBits.l0]
    rw [if_neg (by omega), g2]
    rfl
  | succ d ih =>
    intro j k hd hj hk
    obtain ⟨k, rfl⟩ : ∃ m, k = m + 1 := ⟨k - 1, by omega⟩
    simp only [laws_FnGuardBits.l0]
    have hx : (ob (Crc.xorL (bo (G l)) (unit j 7))).size = 7 := by rw [ob_len, Crc.xorL_length _ _ (by rw [bo_len, g2, unit_len j 7 (by omega)]), bo_len, g2]
    have ht := turnBit_some (G l) g1 (by omega) j (by omega)
    rw [g2] at ht
    rw [if_pos (by omega), ht, bsome, implM_some _ (by omega), bsome]
    have e : mB (ob (Crc.xorL (bo (G l)) (unit j 7))) = (ob l, (j : Int) + 1) := by unfold mB; rw [if_pos ⟨okBits_ob _, hx⟩, g4 j (by omega)]
    rw [e]
    simp only []
    rw [if_pos trivial, w64s (by omega), if_pos (by omega)]
    exact ih (j + 1) k (by omega) (by omega) (by omega)
theorem FnGuardBits : laws_FnGuardBits.Pure := by
  intro l _ _ hw
  refine ⟨300, ?_⟩
  unfold laws_FnGuardBits.f
  split
  · rfl
  · obtain ⟨b, hb, hR⟩ := newReader_some l hw
    unfold spec_DrawGuardBits.f
    obtain ⟨s, hs, h5⟩ := drawG_l0 4 300 (⟨#[]⟩ : ByteArray) 0 0 hR (by omega) rfl (by decide) (by omega)
    rw [hb, bsome]
    simp only []
    rw [hs, bsome, implG_some s (by omega), bsome, specG_some s (by omega) 300 (Or.inl rfl), bsome, if_pos rfl]
    by_cases h : okBits s = true ∧ s.size = 4
    · rw [if_pos h]
      obtain ⟨m, rfl, hlen, hm⟩ := bits_list s h.1 4 h.2
      obtain ⟨_, g1, g2, g3, g4⟩ := chk1_of m hm
      rw [bo_ob]
      have hne : ((G m).toList == ([] : List UInt8)) = false := by
        rw [beq_eq_false_iff_ne]
        intro e
        have := (toList_nil_iff (G m)).1 e
        omega
      rw [hne, show (300 : Nat) = 298 + 1 + 1 by rfl]
      simp only [laws_FnGuardBits.j0, laws_FnGuardBits.j1, Bool.false_eq_true, if_false]
      rw [implM_some _ (by omega), bsome]
      have e : mB (G m) = (ob m, 0) := by unfold mB; rw [if_pos ⟨g1, g2⟩, g3]
      rw [e]
      simp only []
      rw [if_pos trivial, if_neg (by decide)]
      exact guardLaw_l0 m hm hlen 7 0 298 rfl (by omega) (by omega)
    · rw [if_neg h, nil_toList, show (300 : Nat) = 299 + 1 by rfl]
      simp only [laws_FnGuardBits.j0]
      rw [if_pos (by rfl), specG_some s (by omega) 299 (Or.inr rfl), bsome, if_neg h, nil_toList]
      rfl

end Go.Proofs.YtkhoekcjomnaeaaDoor.Pure
