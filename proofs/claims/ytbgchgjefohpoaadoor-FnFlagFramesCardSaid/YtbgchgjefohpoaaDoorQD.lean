/- Drawn bits. -/
import Derived.Test.YtbgchgjefohpoaaDoorPx21
import Derived.Test.YtbgchgjefohpoaaDoorPx22
import Derived.Test.YtbgchgjefohpoaaDoorQB
namespace Go.Proofs.YtbgchgjefohpoaaDoor.Pure
open Go.RowKit Go.Proofs.YtbgchgjefohpoaaDoor.P Go.Proofs.YtbgchgjefohpoaaDoorW.PrintWords Go.Proofs.YtbgchgjefohpoaaDoorW.PrintLast
set_option linter.unusedVariables false
set_option linter.unusedSimpArgs false

/-- One of some strings, picked. -/
theorem of_some {b : List Int} {p n : Int} (h : RS b p n) (hn : n ≤ 1000000000) (l : List ByteArray) (hl : 1 ≤ l.length) (hm : l.length ≤ 1000000) : ∃ r, (∀ k, 1 ≤ k → spec_reader_of.f k b p l = some (r, p + 1)) ∧ r ∈ l ∧ RS b (p + 1) (n + 1) := by
  obtain ⟨r, hr, r0, r1, hR⟩ := pick_some h hn (l.length : Int) (by omega)
  have r2 := r1 (by omega)
  refine ⟨rdOf ByteArray.empty l r, fun k hk => ?_, ?_, hR⟩
  · unfold spec_reader_of.f
    rw [hr k hk, bsome]
    rw [if_pos r0, if_pos r2]
  · unfold rdOf
    rw [List.getD_eq_getElem?_getD, List.getElem?_eq_getElem (by omega)]
    exact List.getElem_mem _

/-! Drawn bits. -/
theorem someBits_j1 {b : List Int} (k : Nat) (s : ByteArray) (p n : Int) (hR : RS b p n) (hn : n ≤ 100000) (hs : s.size ≤ 1000) (hk : 2 ≤ k) :
    ∃ t q, spec_someBits.j1 k s b p = some (t, q) ∧ t.size ≤ s.size + 41 ∧ RS b q (n + 2) := by
  obtain ⟨k, rfl⟩ : ∃ m, k = m + 1 := ⟨k - 1, by omega⟩
  simp only [spec_someBits.j1]
  obtain ⟨r, hr, _, _, hR1⟩ := pick_some hR (by omega) 24 (by omega)
  rw [hr k (by omega), bsome]
  simp only []
  by_cases h0 : r = 0
  · rw [if_pos h0]
    obtain ⟨t, ht, hm, hR2⟩ := of_some hR1 (by omega) ([(⟨#[50]⟩ : ByteArray), (⟨#[120]⟩ : ByteArray), (⟨#[48, 48, 48, 48, 48, 48, 48, 48, 48, 48, 48, 48, 48, 48, 48, 48, 48, 48, 48, 48, 48, 48, 48, 48, 48, 48, 48, 48, 48, 48, 48, 48, 48, 48, 48, 48, 48, 48, 48, 48, 48]⟩ : ByteArray)]) (by simp) (by simp)
    have h1 : t.size ≤ 41 := by
      simp only [List.mem_cons, List.not_mem_nil, or_false] at hm
      rcases hm with rfl | rfl | rfl <;> decide
    rw [ht k (by omega), bsome]
    simp only []
    rw [if_pos (by omega)]
    exact ⟨_, _, rfl, by rw [ByteArray.size_append]; omega, hR2.le (by omega)⟩
  · rw [if_neg h0]
    exact ⟨_, _, rfl, by omega, hR1.le (by omega)⟩
theorem someBits_l0 {b : List Int} (most : Int) : ∀ (d k : Nat) (s : ByteArray) (x p n : Int), RS b p n → n ≤ 10000 - d → x.toNat = d → x ≤ 100 → s.size + d ≤ 900 → d + 4 ≤ k →
    ∃ t q, spec_someBits.l0 k most s x b p = some (t, q) ∧ t.size ≤ s.size + d + 41 ∧ RS b q (n + d + 2) := by
  intro d
  induction d with
  | zero =>
    intro k s x p n hR hn hx hx2 hs hk
    obtain ⟨k, rfl⟩ : ∃ m, k = m + 1 := ⟨k - 1, by omega⟩
    simp only [spec_someBits.l0]
    rw [if_neg (by omega)]
    obtain ⟨t, q, h1, h2, h3⟩ := someBits_j1 k s p n hR (by omega) (by omega) (by omega)
    exact ⟨t, q, h1, by omega, h3.le (by omega)⟩
  | succ d ih =>
    intro k s x p n hR hn hx hx2 hs hk
    obtain ⟨k, rfl⟩ : ∃ m, k = m + 1 := ⟨k - 1, by omega⟩
    simp only [spec_someBits.l0]
    rw [if_pos (by omega)]
    by_cases hm : (s.size : Int) < most
    · rw [if_pos hm]
      obtain ⟨t, ht, htm, hR1⟩ := of_some hR (by omega) ([(⟨#[48]⟩ : ByteArray), (⟨#[49]⟩ : ByteArray), (⟨#[49]⟩ : ByteArray), (⟨#[49]⟩ : ByteArray)]) (by simp) (by simp)
      have h1 : t.size = 1 := by
        simp only [List.mem_cons, List.not_mem_nil, or_false] at htm
        rcases htm with rfl | rfl | rfl | rfl <;> rfl
      rw [ht k (by omega), bsome]
      simp only []
      rw [if_pos (by omega), w64 (n := x - 1) (by omega) (by omega)]
      have h2 : (s ++ t).size = s.size + 1 := by rw [ByteArray.size_append, h1]
      obtain ⟨t2, q, g1, g2, g3⟩ := ih k (s ++ t) (x - 1) (p + 1) (n + 1) hR1 (by omega) (by omega) (by omega) (by omega) (by omega)
      exact ⟨t2, q, g1, by omega, g3.le (by omega)⟩
    · rw [if_neg hm]
      obtain ⟨t, q, h1, h2, h3⟩ := someBits_j1 k s p n hR (by omega) (by omega) (by omega)
      exact ⟨t, q, h1, by omega, h3.le (by omega)⟩
theorem someBits_some {b : List Int} {p n : Int} (hR : RS b p n) (hn : n ≤ 5000) (most : Int) (k : Nat) (hk : 100 ≤ k) :
    ∃ t q, spec_someBits.f k b p most = some (t, q) ∧ t.size ≤ 81 ∧ RS b q (n + 50) := by
  unfold spec_someBits.f
  obtain ⟨r, hr, hm, hR1⟩ := one_some hR (by omega) ([12, 8, 20, 4, 1, 0, 40] : List Int) (by simp) (by simp)
  have h40 : 0 ≤ r ∧ r ≤ 40 := by
    simp only [List.mem_cons, List.not_mem_nil, or_false] at hm
    omega
  rw [hr k (by omega), bsome]
  obtain ⟨t, q, h1, h2, h3⟩ := someBits_l0 most r.toNat k (⟨#[]⟩ : ByteArray) r (p + 1) (n + 1) hR1 (by omega) rfl (by omega) (by simp [ByteArray.size]; omega) (by omega)
  have hz : (⟨#[]⟩ : ByteArray).size = 0 := rfl
  exact ⟨t, q, h1, by omega, h3.le (by omega)⟩

end Go.Proofs.YtbgchgjefohpoaaDoor.Pure
