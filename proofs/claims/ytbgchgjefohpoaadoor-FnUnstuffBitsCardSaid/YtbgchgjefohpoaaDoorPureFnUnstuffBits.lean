/- The pure part of FnUnstuffBits: the Lean function of the law answers true for every argument. -/
import Derived.Test.YtbgchgjefohpoaaDoorPx28
import Derived.Test.YtbgchgjefohpoaaDoorPx29
import Derived.Test.YtbgchgjefohpoaaDoorPx30
import Derived.Test.YtbgchgjefohpoaaDoorQU
import Derived.Test.YtbgchgjefohpoaaDoorQD
namespace Go.Proofs.YtbgchgjefohpoaaDoor.Pure
open Go.RowKit Go.Proofs.YtbgchgjefohpoaaDoor.P Go.Proofs.YtbgchgjefohpoaaDoorW.PrintWords Go.Proofs.YtbgchgjefohpoaaDoorW.PrintLast
set_option linter.unusedVariables false
set_option linter.unusedSimpArgs false

/-! A string that is turned a little. -/
theorem mutate_some {b : List Int} {p n : Int} (hR : RS b p n) (hn : n ≤ 5000) (s : ByteArray) (hs : s.size ≤ 100000) (k : Nat) (hk : 10 ≤ k) :
    ∃ t q, spec_mutate.f k b p s = some (t, q) ∧ t.size ≤ s.size + 1 ∧ RS b q (n + 3) := by
  unfold spec_mutate.f
  rw [w64 (n := (s.size : Int) + 1) (by omega) (by omega)]
  obtain ⟨r, hr, r0, r1, hR1⟩ := pick_some hR (by omega) ((s.size : Int) + 1) (by omega)
  have r2 := r1 (by omega)
  rw [hr k (by omega), bsome]
  simp only []
  obtain ⟨u, hu, u0, u1, hR2⟩ := pick_some hR1 (by omega) 5 (by omega)
  rw [hu k (by omega), bsome]
  simp only []
  obtain ⟨k, rfl⟩ : ∃ m, k = m + 1 := ⟨k - 1, by omega⟩
  have A : spec_mutate.j0 (k + 1) s r u true b (p + 1 + 1) = some (s, p + 1 + 1) ∨ ∃ t, spec_mutate.j0 (k + 1) s r u true b (p + 1 + 1) = some (t, p + 1 + 1 + 1) ∧ t.size ≤ s.size + 1 ∧ RS b (p + 1 + 1 + 1) (n + 3) := by
    simp only [spec_mutate.j0, if_true]
    by_cases hlt : r < (s.size : Int)
    · right
      rw [if_pos hlt, if_pos r0, if_pos (by omega)]
      obtain ⟨t, ht, hm, hR3⟩ := of_some hR2 (by omega) ([(⟨#[48]⟩ : ByteArray), (⟨#[49]⟩ : ByteArray), (⟨#[50]⟩ : ByteArray), (⟨#[44]⟩ : ByteArray), (⟨#[120]⟩ : ByteArray), (⟨#[32]⟩ : ByteArray)]) (by simp) (by simp)
      have h1 : t.size = 1 := by
        simp only [List.mem_cons, List.not_mem_nil, or_false] at hm
        rcases hm with rfl | rfl | rfl | rfl | rfl | rfl <;> rfl
      rw [ht k (by omega), bsome]
      simp only []
      have e1 : (s.extract 0 r.toNat).size = r.toNat := by rw [ByteArray.size_extract]; omega
      have e2 : (s.extract (r + 1).toNat s.size).size = s.size - (r + 1).toNat := by rw [ByteArray.size_extract]; omega
      rw [if_pos (by omega), w64 (n := r + 1) (by omega) (by omega), if_pos (by omega), if_pos (by omega), if_pos (by rw [ByteArray.size_append, e1, e2, h1]; omega)]
      refine ⟨_, rfl, ?_, hR3.le (by omega)⟩
      rw [ByteArray.size_append, ByteArray.size_append, e1, e2, h1]
      omega
    · left
      rw [if_neg hlt]
  have B : u ≠ 0 → u ≠ 1 → ∃ t q, spec_mutate.j0 (k + 1) s r u false b (p + 1 + 1) = some (t, q) ∧ t.size ≤ s.size + 1 ∧ RS b q (n + 3) := by
    intro _ _
    simp only [spec_mutate.j0, Bool.false_eq_true, if_false]
    by_cases h2 : u = 2
    · rw [if_pos h2, if_pos r0, if_pos (by omega)]
      exact ⟨_, _, rfl, by rw [ByteArray.size_extract]; omega, hR2.le (by omega)⟩
    · rw [if_neg h2]
      by_cases h3 : u = 3
      · rw [if_pos h3]
        obtain ⟨t, ht, hm, hR3⟩ := of_some hR2 (by omega) ([(⟨#[48]⟩ : ByteArray), (⟨#[49]⟩ : ByteArray), (⟨#[32]⟩ : ByteArray), (⟨#[120]⟩ : ByteArray)]) (by simp) (by simp)
        have h1 : t.size = 1 := by
          simp only [List.mem_cons, List.not_mem_nil, or_false] at hm
          rcases hm with rfl | rfl | rfl | rfl <;> rfl
        rw [ht k (by omega), bsome]
        simp only []
        rw [if_pos (by omega)]
        exact ⟨_, _, rfl, by rw [ByteArray.size_append]; omega, hR3.le (by omega)⟩
      · rw [if_neg h3]
        exact ⟨_, _, rfl, by omega, hR2.le (by omega)⟩
  have A' : ∃ t q, spec_mutate.j0 (k + 1) s r u true b (p + 1 + 1) = some (t, q) ∧ t.size ≤ s.size + 1 ∧ RS b q (n + 3) := by
    rcases A with h | ⟨t, h1, h2, h3⟩
    · exact ⟨_, _, h, by omega, hR2.le (by omega)⟩
    · exact ⟨_, _, h1, h2, h3⟩
  by_cases h0 : u = 0
  · rw [if_pos h0, show (u == 0) = true by simpa using h0]
    exact A'
  · rw [if_neg h0]
    by_cases h1 : u = 1
    · rw [show (u == 1) = true by simpa using h1]; exact A'
    · rw [show (u == 1) = false by simpa using h1]; exact B h0 h1

theorem drawU_some (l : List Int) (h : ∀ x ∈ l, (Lit.int .u8 x).wf = true) (k : Nat) (hk : 4000 ≤ k) : ∃ t, spec_DrawUnstuffBits.f k l = some t ∧ t.size ≤ 1000 := by
  obtain ⟨b, hb, hR⟩ := newReader_some l h
  unfold spec_DrawUnstuffBits.f
  rw [hb, bsome]
  obtain ⟨s, q, h1, h2, hR1⟩ := someBits_some hR (by omega) 40 k (by omega)
  simp only []
  rw [h1, bsome]
  simp only []
  obtain ⟨r, hr, r0, r1, hR2⟩ := pick_some hR1 (by omega) 4 (by omega)
  rw [hr k (by omega), bsome]
  simp only []
  obtain ⟨k, rfl⟩ : ∃ m, k = m + 1 := ⟨k - 1, by omega⟩
  have key : ∀ s : ByteArray, s.size ≤ 500 → ∃ t, spec_DrawUnstuffBits.j0 (k + 1) s b (q + 1) = some t ∧ t.size ≤ 1000 := by
    intro s hs
    simp only [spec_DrawUnstuffBits.j0]
    obtain ⟨u, hu, u0, u1, hR3⟩ := pick_some hR2 (by omega) 4 (by omega)
    rw [hu k (by omega), bsome]
    simp only []
    by_cases h0 : u = 0
    · rw [if_pos h0]
      obtain ⟨t, q2, g1, g2, _⟩ := mutate_some hR3 (by omega) s (by omega) k (by omega)
      rw [g1, bsome]
      exact ⟨_, rfl, by simp only []; omega⟩
    · rw [if_neg h0]
      exact ⟨_, rfl, by omega⟩
  by_cases h0 : r > 0
  · have h3 := stf_len (bl s) 0 (by omega) (by omega)
    rw [bl_len] at h3
    rw [if_pos h0, stuff_some s (by omega) _ (by omega), bsome]
    exact key _ (by rw [tb_len]; omega)
  · rw [if_neg h0]
    exact key _ (by omega)
theorem FnUnstuffBits : laws_FnUnstuffBits.Pure := by
  intro l _ _ hw
  obtain ⟨s, hs, hl⟩ := drawU_some l hw 5000 (by omega)
  refine ⟨5000, ?_⟩
  unfold laws_FnUnstuffBits.f
  split
  · rfl
  · rw [hs, bsome, implU_some s (by omega) _ (by omega), bsome, specU_some s _ (by omega), bsome, if_pos rfl, if_neg (by simp)]
    simp only [laws_FnUnstuffBits.j0]
    by_cases hv : uok s
    · have e : uout s = (tb (uim 0 (bl s)), true) := by unfold uout; rw [if_pos hv]
      have hu := uim_bits (bl s) 0 hv.2.1
      rw [e]
      simp only [Bool.not_true, Bool.false_eq_true, if_false]
      have h4 : (tb (uim 0 (bl s))).size ≤ 40 := by rw [tb_len]; exact hv.2.2.1
      have e2 : sout (tb (uim 0 (bl s))) = s := by
        unfold sout
        rw [if_pos ⟨okBits_tb hu, h4⟩, bl_tb_bits hu, hv.2.2.2, tb_bl]
      rw [implS_some _ (by omega) _ (by omega), bsome, e2, if_pos rfl, valid_some _ (by omega), bsome, okBits_tb hu, Bool.true_and, decide_eq_true h4]
    · have e : uout s = (tb [], false) := by unfold uout; rw [if_neg hv]
      rw [e]
      simp

end Go.Proofs.YtbgchgjefohpoaaDoor.Pure
