/- Drawn fields are few. -/
import Derived.Test.YtkfbmpllbcladaaPx0
import Derived.Test.YtkfbmpllbcladaaPx26
import Derived.Test.YtkfbmpllbcladaaPx7
import Derived.Test.YtkfbmpllbcladaaQF
namespace Go.Proofs.Ytkfbmpllbcladaa.Pure
open Go.RowKit Go.Proofs.Ytkfbmpllbcladaa.P Go.Proofs.YtkfbmpllbcladaaW.PrintWords Go.Proofs.YtkfbmpllbcladaaW.PrintLast
set_option linter.unusedVariables false
set_option linter.unusedSimpArgs false

/-! Drawn bytes: there are few. -/
theorem someBytes_end (b acc : List Int) (most n p m : Int) (h : RS b p m) (hm : m ≤ 1000000) (ha : acc.length ≤ 1000000) : ∃ r p', (∀ k, 2 ≤ k → spec_someBytes.j1 k most acc n false b p = some (r, p')) ∧ r.length ≤ acc.length + 17 ∧ RS b p' (m + 1) := by
  obtain ⟨t, ht, t0, t1, hR⟩ := pick_some h (by omega) 30 (by omega)
  by_cases c0 : t = 0
  · refine ⟨acc ++ [256], p + 1, fun k hk => ?_, by simp, hR⟩
    obtain ⟨k, rfl⟩ : ∃ j, k = j + 1 := ⟨k - 1, by omega⟩
    simp only [spec_someBytes.j1, Bool.false_eq_true, if_false]
    rw [ht k (by omega)]
    simp only [Option.bind_some]
    rw [if_pos c0, if_pos (by omega)]
  · by_cases c1 : t = 1
    · refine ⟨acc ++ [-1], p + 1, fun k hk => ?_, by simp, hR⟩
      obtain ⟨k, rfl⟩ : ∃ j, k = j + 1 := ⟨k - 1, by omega⟩
      simp only [spec_someBytes.j1, Bool.false_eq_true, if_false]
      rw [ht k (by omega)]
      simp only [Option.bind_some]
      rw [if_neg c0, if_pos c1, if_pos (by omega)]
    · by_cases c2 : t = 2
      · refine ⟨acc ++ [1, 2, 3, 4, 5, 6, 7, 8, 9, 10, 11, 12, 13, 14, 15, 16, 17], p + 1, fun k hk => ?_, by simp, hR⟩
        obtain ⟨k, rfl⟩ : ∃ j, k = j + 1 := ⟨k - 1, by omega⟩
        simp only [spec_someBytes.j1, Bool.false_eq_true, if_false]
        rw [ht k (by omega)]
        simp only [Option.bind_some]
        rw [if_neg c0, if_neg c1, if_pos c2, if_pos (by simp; omega)]
      · refine ⟨acc, p + 1, fun k hk => ?_, by simp, hR⟩
        obtain ⟨k, rfl⟩ : ∃ j, k = j + 1 := ⟨k - 1, by omega⟩
        simp only [spec_someBytes.j1, Bool.false_eq_true, if_false]
        rw [ht k (by omega)]
        simp only [Option.bind_some]
        rw [if_neg c0, if_neg c1, if_neg c2]

theorem someBytes_l0 (b : List Int) (most : Int) : ∀ (d : Nat) (acc : List Int) (n p m : Int), n.toNat = d → RS b p m → m + 3 * d ≤ 900000 → acc.length + d ≤ 900000 → n ≤ 900000 →
    ∃ r p', (∀ k, 2 * d + 3 ≤ k → spec_someBytes.l0 k most acc n b p = some (r, p')) ∧ r.length ≤ acc.length + d + 17 ∧ RS b p' (m + 3 * d + 1) := by
  intro d
  induction d with
  | zero =>
    intro acc n p m hd h hm ha hn
    obtain ⟨r, p', h1, h2, h3⟩ := someBytes_end b acc most n p m h (by omega) (by omega)
    refine ⟨r, p', fun k hk => ?_, by omega, h3.le (by omega)⟩
    obtain ⟨k, rfl⟩ : ∃ j, k = j + 1 := ⟨k - 1, by omega⟩
    simp only [spec_someBytes.l0]
    rw [if_neg (by omega)]
    exact h1 k (by omega)
  | succ d ih =>
    intro acc n p m hd h hm ha hn
    by_cases hlt : (acc.length : Int) < most
    · obtain ⟨u, hu, u0, u1, h1⟩ := pick_some h (by omega) 256 (by omega)
      obtain ⟨v, hv, v0, v1, h2⟩ := pick_some h1 (by omega) 4 (by omega)
      obtain ⟨x, hx, hxm, h3⟩ := one_some h2 (by omega) [u, 0, 192, 219, v, 255] (by simp) (by simp)
      obtain ⟨r, p', e1, e2, e3⟩ := ih (acc ++ [x]) (n - 1) _ _ (by omega) h3 (by omega) (by simp; omega) (by omega)
      refine ⟨r, p', fun k hk => ?_, by simp at e2; omega, e3.le (by omega)⟩
      obtain ⟨k, rfl⟩ : ∃ j, k = j + 2 := ⟨k - 2, by omega⟩
      simp only [spec_someBytes.l0]
      rw [if_pos (by omega), decide_eq_true hlt]
      simp only [spec_someBytes.j1, if_true]
      rw [hu k (by omega)]
      simp only [Option.bind_some]
      rw [hv k (by omega)]
      simp only [Option.bind_some]
      rw [hx k (by omega)]
      simp only [Option.bind_some]
      rw [if_pos (by omega), w64 (n := n - 1) (by omega) (by omega)]
      exact e1 k (by omega)
    · obtain ⟨r, p', h1, h2, h3⟩ := someBytes_end b acc most n p m h (by omega) (by omega)
      refine ⟨r, p', fun k hk => ?_, by omega, h3.le (by omega)⟩
      obtain ⟨k, rfl⟩ : ∃ j, k = j + 1 := ⟨k - 1, by omega⟩
      simp only [spec_someBytes.l0]
      rw [if_pos (by omega), decide_eq_false hlt]
      exact h1 k (by omega)

theorem someBytes_some {b : List Int} {p m : Int} (h : RS b p m) (hm : m ≤ 800000) (most : Int) : ∃ r p', (∀ k, 40 ≤ k → spec_someBytes.f k b p most = some (r, p')) ∧ r.length ≤ 33 ∧ RS b p' (m + 60) := by
  obtain ⟨n, hn, hnm, h1⟩ := one_some h (by omega) [4, 6, 3, 8, 2, 1, 0, 16] (by simp) (by simp)
  have : 0 ≤ n ∧ n ≤ 16 := by simp at hnm; omega
  obtain ⟨r, p', e1, e2, e3⟩ := someBytes_l0 b most n.toNat [] n _ _ rfl h1 (by omega) (by simp; omega) (by omega)
  refine ⟨r, p', fun k hk => ?_, by simp at e2; omega, e3.le (by omega)⟩
  unfold spec_someBytes.f
  rw [hn k (by omega)]
  exact e1 k (by omega)

/-! Drawn fields: there are few, and each has few bytes. -/
theorem rdF_mem (l : List Fd) (i : Int) : rd_T52 l i ∈ l ∨ rd_T52 l i = z52 := by
  unfold rd_T52
  rw [List.getD_eq_getElem?_getD]
  cases h : l[i.toNat]? with
  | none => right; rfl
  | some x => left; exact List.mem_of_getElem? h

theorem someFields_l0 (b : List Int) (n : Int) (hn : n ≤ 6) : ∀ (d : Nat) (acc : List Fd) (p m : Int), (n - acc.length).toNat = d → RS b p m → m + 100 * d ≤ 700000 → acc.length ≤ 6 → (∀ f ∈ acc, f.f1.length ≤ 33) →
    ∃ r p', (∀ k, d + 60 ≤ k → spec_someFields.l0 k acc n b p = some (r, p')) ∧ r.length ≤ 6 ∧ (∀ f ∈ r, f.f1.length ≤ 33) ∧ RS b p' (m + 100 * d + 10) := by
  intro d
  induction d with
  | zero =>
    intro acc p m hd h hm ha hf
    by_cases h0 : (acc.length : Int) > 0
    · obtain ⟨t, ht, t0, t1, h1⟩ := pick_some h (by omega) 24 (by omega)
      by_cases c0 : t = 0
      · obtain ⟨x, hx, _, h2⟩ := one_some h1 (by omega) [301, -1] (by simp) (by simp)
        refine ⟨acc.set 0 ⟨x, (rd_T52 acc 0).f1⟩, p + 1 + 1, fun k hk => ?_, by simp; omega, ?_, h2.le (by omega)⟩
        · obtain ⟨k, rfl⟩ : ∃ j, k = j + 1 := ⟨k - 1, by omega⟩
          simp only [spec_someFields.l0]
          rw [if_neg (by omega), if_pos h0, ht k (by omega)]
          simp only [bsome]
          rw [if_pos c0, hx k (by omega)]
          simp only [bsome]
          rw [if_pos (by omega)]
          rfl
        · intro f hfm
          rcases List.mem_or_eq_of_mem_set hfm with h3 | h3
          · exact hf f h3
          · subst h3
            rcases rdF_mem acc 0 with h4 | h4
            · exact hf (rd_T52 acc 0) h4
            · show (rd_T52 acc 0).f1.length ≤ 33
              rw [h4]; simp [z52]
      · refine ⟨acc, p + 1, fun k hk => ?_, ha, hf, h1.le (by omega)⟩
        obtain ⟨k, rfl⟩ : ∃ j, k = j + 1 := ⟨k - 1, by omega⟩
        simp only [spec_someFields.l0]
        rw [if_neg (by omega), if_pos h0, ht k (by omega)]
        simp only [bsome]
        rw [if_neg c0]
    · refine ⟨acc, p, fun k hk => ?_, ha, hf, h.le (by omega)⟩
      obtain ⟨k, rfl⟩ : ∃ j, k = j + 1 := ⟨k - 1, by omega⟩
      simp only [spec_someFields.l0]
      rw [if_neg (by omega), if_neg h0]
  | succ d ih =>
    intro acc p m hd h hm ha hf
    obtain ⟨u, hu, _, _, h1⟩ := pick_some h (by omega) 4 (by omega)
    obtain ⟨v, hv, _, _, h2⟩ := pick_some h1 (by omega) 256 (by omega)
    obtain ⟨x, hx, _, h3⟩ := one_some h2 (by omega) [u, v, 300, 128] (by simp) (by simp)
    obtain ⟨y, p1, hy, y1, h4⟩ := someBytes_some h3 (by omega) 6
    obtain ⟨r, p', e1, e2, e3, e4⟩ := ih (acc ++ [⟨x, y⟩]) p1 _ (by simp; omega) (h4.le (by omega : _ ≤ m + 100)) (by omega) (by simp; omega) (by
      intro f hfm
      rcases List.mem_append.1 hfm with h5 | h5
      · exact hf f h5
      · simp at h5; subst h5; exact y1)
    refine ⟨r, p', fun k hk => ?_, e2, e3, e4.le (by omega)⟩
    obtain ⟨k, rfl⟩ : ∃ j, k = j + 1 := ⟨k - 1, by omega⟩
    simp only [spec_someFields.l0]
    rw [if_pos (by omega), hu k (by omega)]
    simp only [bsome]
    rw [hv k (by omega)]
    simp only [bsome]
    rw [hx k (by omega)]
    simp only [bsome]
    rw [hy k (by omega)]
    simp only [bsome]
    rw [if_pos (by omega)]
    exact e1 k (by omega)

theorem someFields_some {b : List Int} {p m : Int} (h : RS b p m) (hm : m ≤ 1000) : ∃ r p', (∀ k, 70 ≤ k → spec_someFields.f k b p = some (r, p')) ∧ r.length ≤ 6 ∧ (∀ f ∈ r, f.f1.length ≤ 33) ∧ RS b p' (m + 1000) := by
  obtain ⟨n, hn, hnm, h1⟩ := one_some h (by omega) [2, 3, 1, 5, 0, 6] (by simp) (by simp)
  have : 0 ≤ n ∧ n ≤ 6 := by simp at hnm; omega
  obtain ⟨r, p', e1, e2, e3, e4⟩ := someFields_l0 b n this.2 n.toNat [] _ _ (by simp) h1 (by omega) (by simp) (by simp)
  refine ⟨r, p', fun k hk => ?_, e2, e3, e4.le (by omega)⟩
  unfold spec_someFields.f
  rw [hn k (by omega)]
  exact e1 k (by omega)

end Go.Proofs.Ytkfbmpllbcladaa.Pure
