/- Drawn bytes are few. -/
import Derived.Test.YtkfbmpllbcladaaPx2
import Derived.Test.YtkfbmpllbcladaaPx4
import Derived.Test.YtkfbmpllbcladaaPx7
import Derived.Test.YtkfbmpllbcladaaQReader
namespace Go.Proofs.Ytkfbmpllbcladaa.Pure
open Go.RowKit Go.Proofs.Ytkfbmpllbcladaa.P Go.Proofs.YtkfbmpllbcladaaW.PrintWords Go.Proofs.YtkfbmpllbcladaaW.PrintLast
set_option linter.unusedVariables false
set_option linter.unusedSimpArgs false

/-! Drawn bytes: there are few. -/
theorem someBytes_end (b acc : List Int) (most n p m : Int) (h : RS b p m) (hm : m ≤ 1000000) (ha : acc.length ≤ 1000000) : ∃ r p', (∀ k, 2 ≤ k → spec_someBytes.j1 k most acc n false b p = some (r, p')) ∧ r.length ≤ acc.length + 17 ∧ RS b p' (m + 1) := by
  obtain ⟨t, ht, t0, t1, hR⟩ := pick_some h (by omega) 30 (by omega)
  by_cases c0 : t = 0
  · refine ⟨acc ++ [256], p + 1, fun k hk => ?_, by simp, hR⟩
    obtain ⟨k, rfl⟩ : ∃ j, k = j + 1 := ⟨k - 1, by omega⟩
    simp only [spec_someBytes.j1, Bool.false_eq_true, if_false]
    rw [ht k (by omega)]
    simp only [Option.bind_some]
    rw [if_pos c0, if_pos (by omega)]
  · by_cases c1 : t = 1
    · refine ⟨acc ++ [-1], p + 1, fun k hk => ?_, by simp, hR⟩
      obtain ⟨k, rfl⟩ : ∃ j, k = j + 1 := ⟨k - 1, by omega⟩
      simp only [spec_someBytes.j1, Bool.false_eq_true, if_false]
      rw [ht k (by omega)]
      simp only [Option.bind_some]
      rw [if_neg c0, if_pos c1, if_pos (by omega)]
    · by_cases c2 : t = 2
      · refine ⟨acc ++ [1, 2, 3, 4, 5, 6, 7, 8, 9, 10, 11, 12, 13, 14, 15, 16, 17], p + 1, fun k hk => ?_, by simp, hR⟩
        obtain ⟨k, rfl⟩ : ∃ j, k = j + 1 := ⟨k - 1, by omega⟩
        simp only [spec_someBytes.j1, Bool.false_eq_true, if_false]
        rw [ht k (by omega)]
        simp only [Option.bind_some]
        rw [if_neg c0, if_neg c1, if_pos c2, if_pos (by simp; omega)]
      · refine ⟨acc, p + 1, fun k hk => ?_, by simp, hR⟩
        obtain ⟨k, rfl⟩ : ∃ j, k = j + 1 := ⟨k - 1, by omega⟩
        simp only [spec_someBytes.j1, Bool.false_eq_true, if_false]
        rw [ht k (by omega)]
        simp only [Option.bind_some]
        rw [if_neg c0, if_neg c1, if_neg c2]

theorem someBytes_l0 (b : List Int) (most : Int) : ∀ (d : Nat) (acc : List Int) (n p m : Int), n.toNat = d → RS b p m → m + 3 * d ≤ 900000 → acc.length + d ≤ 900000 → n ≤ 900000 →
    ∃ r p', (∀ k, 2 * d + 3 ≤ k → spec_someBytes.l0 k most acc n b p = some (r, p')) ∧ r.length ≤ acc.length + d + 17 ∧ RS b p' (m + 3 * d + 1) := by
  intro d
  induction d with
  | zero =>
    intro acc n p m hd h hm ha hn
    obtain ⟨r, p', h1, h2, h3⟩ := someBytes_end b acc most n p m h (by omega) (by omega)
    refine ⟨r, p', fun k hk => ?_, by omega, h3.le (by omega)⟩
    obtain ⟨k, rfl⟩ : ∃ j, k = j + 1 := ⟨k - 1, by omega⟩
    simp only [spec_someBytes.l0]
    rw [if_neg (by omega)]
    exact h1 k (by omega)
  | succ d ih =>
    intro acc n p m hd h hm ha hn
    by_cases hlt : (acc.length : Int) < most
    · obtain ⟨u, hu, u0, u1, h1⟩ := pick_some h (by omega) 256 (by omega)
      obtain ⟨v, hv, v0, v1, h2⟩ := pick_some h1 (by omega) 4 (by omega)
      obtain ⟨x, hx, hxm, h3⟩ := one_some h2 (by omega) [u, 0, 192, 219, v, 255] (by simp) (by simp)
      obtain ⟨r, p', e1, e2, e3⟩ := ih (acc ++ [x]) (n - 1) _ _ (by omega) h3 (by omega) (by simp; omega) (by omega)
      refine ⟨r, p', fun k hk => ?_, by simp at e2; omega, e3.le (by omega)⟩
      obtain ⟨k, rfl⟩ : ∃ j, k = j + 2 := ⟨k - 2, by omega⟩
      simp only [spec_someBytes.l0]
      rw [if_pos (by omega), decide_eq_true hlt]
      simp only [spec_someBytes.j1, if_true]
      rw [hu k (by omega)]
      simp only [Option.bind_some]
      rw [hv k (by omega)]
      simp only [Option.bind_some]
      rw [hx k (by omega)]
      simp only [Option.bind_some]
      rw [if_pos (by omega), w64 (n := n - 1) (by omega) (by omega)]
      exact e1 k (by omega)
    · obtain ⟨r, p', h1, h2, h3⟩ := someBytes_end b acc most n p m h (by omega) (by omega)
      refine ⟨r, p', fun k hk => ?_, by omega, h3.le (by omega)⟩
      obtain ⟨k, rfl⟩ : ∃ j, k = j + 1 := ⟨k - 1, by omega⟩
      simp only [spec_someBytes.l0]
      rw [if_pos (by omega), decide_eq_false hlt]
      exact h1 k (by omega)

theorem someBytes_some {b : List Int} {p m : Int} (h : RS b p m) (hm : m ≤ 800000) (most : Int) : ∃ r p', (∀ k, 40 ≤ k → spec_someBytes.f k b p most = some (r, p')) ∧ r.length ≤ 33 ∧ RS b p' (m + 60) := by
  obtain ⟨n, hn, hnm, h1⟩ := one_some h (by omega) [4, 6, 3, 8, 2, 1, 0, 16] (by simp) (by simp)
  have : 0 ≤ n ∧ n ≤ 16 := by simp at hnm; omega
  obtain ⟨r, p', e1, e2, e3⟩ := someBytes_l0 b most n.toNat [] n _ _ rfl h1 (by omega) (by simp; omega) (by omega)
  refine ⟨r, p', fun k hk => ?_, by simp at e2; omega, e3.le (by omega)⟩
  unfold spec_someBytes.f
  rw [hn k (by omega)]
  exact e1 k (by omega)

theorem bent_j0 (b l : List Int) (c : Bool) (p m : Int) (h : RS b p m) (hm : m ≤ 900000) (hl : l.length ≤ 1000000) (hc : c = true → 1 ≤ l.length) : ∃ r p', (∀ k, 2 ≤ k → spec_bentBytes.j0 k l c b p = some (r, p')) ∧ r.length ≤ l.length ∧ RS b p' (m + 3) := by
  have cut : ∀ (y : List Int) (p m : Int), RS b p m → m ≤ 1000000 → y.length = l.length → ∃ r p', (∀ k, 1 ≤ k → (if (l.length : Int) > 0 then ((spec_reader_pick.f k b p 8).bind fun bt => (if bt.1 = 0 then (if 0 ≤ (wrap64 ((l.length : Int) - 1)) then (if (wrap64 ((l.length : Int) - 1)) ≤ (l.length : Int) then (some ((y.take ((wrap64 ((l.length : Int) - 1)) : Int).toNat), bt.2)) else (none)) else (none)) else (some (y, bt.2)))) else (some (y, p))) = some (r, p')) ∧ r.length ≤ l.length ∧ RS b p' (m + 1) := by
    intro y p m h hm hy
    by_cases h0 : (l.length : Int) > 0
    · obtain ⟨t, ht, t0, t1, hR⟩ := pick_some h (by omega) 8 (by omega)
      have e : wrap64 ((l.length : Int) - 1) = (l.length : Int) - 1 := w64 (by omega) (by omega)
      by_cases c0 : t = 0
      · refine ⟨y.take ((l.length : Int) - 1).toNat, p + 1, fun k hk => ?_, by simp; omega, hR⟩
        rw [if_pos h0, ht k hk]
        simp only [Option.bind_some]
        rw [if_pos c0, e, if_pos (by omega), if_pos (by omega)]
      · refine ⟨y, p + 1, fun k hk => ?_, by omega, hR⟩
        rw [if_pos h0, ht k hk]
        simp only [Option.bind_some]
        rw [if_neg c0]
    · exact ⟨y, p, fun k hk => by rw [if_neg h0], by omega, h.le (by omega)⟩
  cases c with
  | false =>
    obtain ⟨r, p', e1, e2, e3⟩ := cut l p m h (by omega) rfl
    refine ⟨r, p', fun k hk => ?_, e2, e3.le (by omega)⟩
    obtain ⟨k, rfl⟩ : ∃ j, k = j + 1 := ⟨k - 1, by omega⟩
    simp only [spec_bentBytes.j0, Bool.false_eq_true, if_false]
    exact e1 k (by omega)
  | true =>
    have hl1 := hc rfl
    obtain ⟨t, ht, t0, t1, h1⟩ := pick_some h (by omega) (l.length : Int) (by omega)
    obtain ⟨x, hx, hxm, h2⟩ := one_some h1 (by omega) [0, 192, 219, 220, 1, 2, 200] (by simp) (by simp)
    obtain ⟨r, p', e1, e2, e3⟩ := cut (l.set t.toNat x) _ _ h2 (by omega) (by simp)
    refine ⟨r, p', fun k hk => ?_, e2, e3.le (by omega)⟩
    obtain ⟨k, rfl⟩ : ∃ j, k = j + 1 := ⟨k - 1, by omega⟩
    simp only [spec_bentBytes.j0, if_true]
    rw [ht k (by omega)]
    simp only [Option.bind_some]
    rw [hx k (by omega)]
    simp only [Option.bind_some]
    rw [if_pos t0, if_pos (t1 (by omega))]
    exact e1 k (by omega)

theorem bent_some {b : List Int} {p m : Int} (h : RS b p m) (hm : m ≤ 800000) (l : List Int) (hl : l.length ≤ 1000000) : ∃ r p', (∀ k, 2 ≤ k → spec_bentBytes.f k b p l = some (r, p')) ∧ r.length ≤ l.length ∧ RS b p' (m + 4) := by
  by_cases h0 : (l.length : Int) > 0
  · obtain ⟨t, ht, t0, t1, h1⟩ := pick_some h (by omega) 4 (by omega)
    obtain ⟨r, p', e1, e2, e3⟩ := bent_j0 b l (t == 0) _ _ h1 (by omega) hl (by omega)
    refine ⟨r, p', fun k hk => ?_, e2, e3.le (by omega)⟩
    unfold spec_bentBytes.f
    rw [if_pos h0, ht k (by omega)]
    exact e1 k hk
  · obtain ⟨r, p', e1, e2, e3⟩ := bent_j0 b l false _ _ h (by omega) hl (by simp)
    refine ⟨r, p', fun k hk => ?_, e2, e3.le (by omega)⟩
    unfold spec_bentBytes.f
    rw [if_neg h0]
    exact e1 k hk

end Go.Proofs.Ytkfbmpllbcladaa.Pure
