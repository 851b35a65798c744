/- The pure part of FnExactActOn: the Lean function of the law answers true for every argument. -/
import Derived.Test.YthipginmgmmdcaaPBigx1
import Derived.Test.YthipginmgmmdcaaPBigx10
import Derived.Test.YthipginmgmmdcaaPBigx11
import Derived.Test.YthipginmgmmdcaaPBigx12
import Derived.Test.YthipginmgmmdcaaPBigx6
import Derived.Test.YthipginmgmmdcaaPBigx7
import Derived.Test.YthipginmgmmdcaaQAB
namespace Go.Proofs.Ythipginmgmmdcaa.Pure
open Go.RowKit Go.Proofs.Ythipginmgmmdcaa.PBig Go.Proofs.YthipginmgmmdcaaW.PrintWords Go.Proofs.YthipginmgmmdcaaW.PrintLast
set_option linter.unusedVariables false
set_option linter.unusedSimpArgs false

theorem impl_within_some (x a b : Int) : impl_within.f x a b = some (decide (a ≤ x ∧ x ≤ b)) := within_some x a b

/-- Among the bits of he from x on, r of them, one stands that may not. -/
def bad : Nat → Int → Int → Int → Bool
  | 0, _, _, _ => false
  | r + 1, x, he, m => if he / 2 ^ x.toNat % 2 = 1 then (if x = 0 then true else if x ≥ m then true else bad r (x + 1) he m) else bad r (x + 1) he m
theorem bad_fin : ∀ (he : Fin 16) (kk : Fin 5) (m : Fin 6), (he.val : Int) < 2 ^ kk.val →
    (bad kk.val 0 he.val m.val = (decide ((he.val : Int) % 2 = 1) || (shr .i64 (he.val : Int) (m.val : Int) != 0))) := by decide +kernel
theorem shr_fin : ∀ (he : Fin 16) (m : Fin 6), shr .i64 (he.val : Int) (m.val : Int) = 0 → (he.val : Int) < 2 ^ m.val := by decide +kernel
theorem shl_fin : ∀ kk : Fin 5, shl .i64 1 (kk.val : Int) = 2 ^ kk.val := by decide +kernel

theorem valid_l0 (p : Win.Pl) (l : Win.Lk) (hk4 : p.k ≤ 4) (h0 : 0 ≤ l.he) (h16 : l.he < 16) (hd : 0 ≤ l.du) (hd5 : l.du ≤ 100) (hs0 : 0 ≤ l.se) (hs5 : l.se ≤ 100) :
    ∀ (r : Nat) (x : Int) (k : Nat), x + r = p.k → 0 ≤ x → r + 20 ≤ k → spec_validLink.l0 k x p.n p.a p.k p.w l.kn l.se l.du l.he l.da l.wo =
      some (!(bad r x l.he (l.se - l.du)) && (decide (-1 ≤ l.da ∧ l.da ≤ l.se - 1) && decide (-1 ≤ l.wo ∧ l.wo ≤ l.du))) := by
  intro r
  induction r with
  | zero =>
    intro x k hx x0 hk
    obtain ⟨k, rfl⟩ : ∃ m, k = m + 1 := ⟨k - 1, by omega⟩
    simp only [spec_validLink.l0, bad]
    rw [if_neg (by omega), w64 (by omega) (by omega), within_some, bsome, within_some, bsome]
    generalize decide (-1 ≤ l.da ∧ l.da ≤ l.se - 1) = a
    generalize decide (-1 ≤ l.wo ∧ l.wo ≤ l.du) = b
    cases a <;> simp
  | succ r ih =>
    intro x k hx x0 hk
    obtain ⟨k, rfl⟩ : ∃ m, k = m + 1 := ⟨k - 1, by omega⟩
    simp only [spec_validLink.l0, bad]
    rw [if_pos (by omega), bit_some l.he x h0 (by omega) x0 (by omega) k (by omega), bsome, w64 (n := l.du + x) (by omega) (by omega), w64 (n := x + 1) (by omega) (by omega)]
    have J := ih (x + 1) k (by omega) (by omega) (by omega)
    by_cases hb : l.he / 2 ^ x.toNat % 2 = 1
    · rw [if_pos hb, if_pos hb]
      by_cases hx0 : x = 0
      · rw [if_pos hx0, if_pos hx0]; rfl
      · rw [if_neg hx0, if_neg hx0]
        by_cases hm : l.du + x ≥ l.se
        · rw [if_pos hm, if_pos (by omega)]; rfl
        · rw [if_neg hm, if_neg (by omega)]; exact J
    · rw [if_neg hb, if_neg hb]; exact J

theorem link_both {p : Win.Pl} (hp : Win.okPlan p) (l : Win.Lk) : ∃ b : Bool, spec_validLink.f 200 p.n p.a p.k p.w l.kn l.se l.du l.he l.da l.wo = some b ∧
    impl_Link_ok.f 200 l.kn l.se l.du l.he l.da l.wo p.n p.a p.k p.w = some b ∧ (b = true → Win.G p l) := by
  obtain ⟨n2, n4, a1, a4, k1, k4, w1, w5⟩ := hp
  unfold spec_validLink.f impl_Link_ok.f
  simp only [within_some, impl_within_some, bsome, decide_eq_true_eq]
  have sj : ∃ b : Bool, spec_validLink.j0 200 true p.n p.a p.k p.w l.kn l.se l.du l.he l.da l.wo = some b ∧ impl_Link_ok.j0 200 true l.kn l.se l.du l.he l.da l.wo p.n p.a p.k p.w = some b ∧ (b = true → Win.G p l) := by
    refine ⟨false, ?_, ?_, by simp⟩ <;> simp only [spec_validLink.j0, impl_Link_ok.j0, if_true]
  by_cases h1 : 0 ≤ l.kn ∧ l.kn ≤ p.w
  · rw [if_pos h1, if_pos h1, w64 (n := l.kn + p.a) (by omega) (by omega)]
    have hmn : mn p.w (l.kn + p.a) ≤ p.w := by unfold mn; split <;> omega
    by_cases h2 : l.kn ≤ l.se ∧ l.se ≤ mn p.w (l.kn + p.a)
    · rw [if_pos h2, if_pos h2]
      by_cases h3 : l.kn ≤ l.du ∧ l.du ≤ l.se
      · rw [if_pos h3, power_some p.k (by omega) (by omega) 200 (by omega), bsome]
        have pw := pow_le32 (x := p.k) (by omega)
        have pw16 := Win.pow_le16 k1 k4
        rw [w64 (n := 2 ^ p.k.toNat - 1) (by omega) (by omega)]
        have esh : shl .i64 1 p.k = 2 ^ p.k.toNat := by
          have := shl_fin ⟨p.k.toNat, by omega⟩
          simpa only [Int.toNat_of_nonneg (show 0 ≤ p.k by omega)] using this
        rw [decide_eq_true h3]
        simp only [spec_validLink.j0, impl_Link_ok.j0, esh, Bool.not_true, reduceCtorEq, if_false]
        have hj1 : ∀ b : Bool, impl_Link_ok.j1 199 b l.kn l.se l.du l.he l.da l.wo = some (!b && (decide (-1 ≤ l.da ∧ l.da ≤ l.se - 1) && decide (-1 ≤ l.wo ∧ l.wo ≤ l.du))) := by
          intro b
          simp only [impl_Link_ok.j1]
          cases b
          · rw [if_neg (by decide), w64 (by omega) (by omega), impl_within_some, bsome, impl_within_some, bsome]
            generalize decide (-1 ≤ l.da ∧ l.da ≤ l.se - 1) = a
            generalize decide (-1 ≤ l.wo ∧ l.wo ≤ l.du) = b
            cases a <;> simp
          · rw [if_pos rfl]; rfl
        by_cases h4 : 0 ≤ l.he ∧ l.he ≤ 2 ^ p.k.toNat - 1
        · rw [decide_eq_true h4]
          simp only [Bool.not_true, reduceCtorEq, if_false]
          rw [if_neg (show ¬ l.he < 0 by omega), if_pos (show 0 ≤ p.k by omega), if_neg (show ¬ l.he ≥ 2 ^ p.k.toNat by omega), w64 (n := l.se - l.du) (by omega) (by omega), Int.tmod_eq_emod_of_nonneg h4.1]
          rw [valid_l0 p l k4 h4.1 (by omega) (by omega) (by omega) (by omega) (by omega) p.k.toNat 0 199 (by omega) (by omega) (by omega)]
          have hf := bad_fin ⟨l.he.toNat, by omega⟩ ⟨p.k.toNat, by omega⟩ ⟨(l.se - l.du).toNat, by omega⟩
          have e1 : ((l.he.toNat : Nat) : Int) = l.he := by omega
          have e2 : (((l.se - l.du).toNat : Nat) : Int) = l.se - l.du := by omega
          simp only [e1, e2] at hf
          rw [hf (by omega)]
          have hq := shr_fin ⟨l.he.toNat, by omega⟩ ⟨(l.se - l.du).toNat, by omega⟩
          simp only [e1, e2] at hq
          refine ⟨_, rfl, ?_, ?_⟩
          · by_cases ho : l.he % 2 = 1
            · rw [if_pos ho, hj1, decide_eq_true ho]; rfl
            · rw [if_neg ho, if_pos (show 0 ≤ l.se - l.du by omega), hj1, decide_eq_false ho, Bool.false_or]
          · intro hb
            simp only [Bool.and_eq_true, Bool.not_eq_true', Bool.or_eq_false_iff, decide_eq_false_iff_not, bne_eq_false_iff_eq, decide_eq_true_eq] at hb
            obtain ⟨⟨b1, b2⟩, b3, b4⟩ := hb
            exact ⟨h1.1, h2.1, by omega, by omega, by omega, h4.1, by omega, by omega, hq b2, by omega, by omega, by omega, by omega⟩
        · rw [decide_eq_false h4]
          simp only [Bool.not_false, if_true]
          refine ⟨false, rfl, ?_, by simp⟩
          by_cases h5 : l.he < 0
          · rw [if_pos h5, hj1]; rfl
          · rw [if_neg h5, if_pos (show 0 ≤ p.k by omega), if_pos (show l.he ≥ 2 ^ p.k.toNat by omega), hj1]; rfl
      · rw [if_neg h3, decide_eq_false h3]; exact sj
    · rw [if_neg h2, if_neg h2]; exact sj
  · rw [if_neg h1, if_neg h1]; exact sj

theorem act_both (p : Win.Pl) (l : Win.Lk) (c : Int) : ∃ r, spec_ActOn.f 200 p.n p.a p.k p.w l.kn l.se l.du l.he l.da l.wo c = some r ∧ impl_ActOn.f 200 p.n p.a p.k p.w l.kn l.se l.du l.he l.da l.wo c = some r := by
  obtain ⟨b, e1, e2, hb⟩ := plan_both p
  unfold spec_ActOn.f impl_ActOn.f
  rw [e1, e2, bsome, bsome]
  cases b with
  | false => exact ⟨_, rfl, rfl⟩
  | true =>
    have hp := hb rfl
    rw [if_pos rfl, if_pos rfl]
    obtain ⟨b, e3, e4, hg⟩ := link_both hp l
    rw [e3, e4, bsome, bsome]
    cases b with
    | false => exact ⟨_, rfl, rfl⟩
    | true =>
      rw [if_pos rfl, if_pos rfl, spec_step_eq hp (hg rfl) c 200 (by omega), impl_acted_eq hp (hg rfl) c 200 (by omega), bsome]
      exact ⟨_, rfl, rfl⟩

theorem FnExactActOn (a0 a1 a2 a3 b0 b1 b2 b3 b4 b5 c : Int) : laws_FnExactActOn.f 200 a0 a1 a2 a3 b0 b1 b2 b3 b4 b5 c = some true := by
  unfold laws_FnExactActOn.f laws_toPlan.f laws_toLink.f
  obtain ⟨r, e1, e2⟩ := act_both ⟨a0, a1, a2, a3⟩ ⟨b0, b1, b2, b3, b4, b5⟩ c
  simp only at e1 e2
  simp only [bsome]
  rw [e1, bsome, e2, bsome, eqLink_same, bsome, if_pos rfl]
  simp

end Go.Proofs.Ythipginmgmmdcaa.Pure
