/- Cycles: both programs. -/
import Derived.Test.YtmkcmkkpeimldaaDoorPx12
import Derived.Test.YtmkcmkkpeimldaaDoorPx13
import Derived.Test.YtmkcmkkpeimldaaDoorPx5
import Derived.Test.YtmkcmkkpeimldaaDoorPx9
import Derived.Test.YtmkcmkkpeimldaaDoorQSe
namespace Go.Proofs.YtmkcmkkpeimldaaDoor.Pure
open Go.RowKit Go.Proofs.YtmkcmkkpeimldaaDoor.P Go.Proofs.YtmkcmkkpeimldaaDoorW.PrintWords Go.Proofs.YtmkcmkkpeimldaaDoorW.PrintLast
set_option linter.unusedVariables false
set_option linter.unusedSimpArgs false

/-! Cycles. -/
def W (p : ByteArray) (d : Nat) : Bool := allz (Crc.rst (pt p) (Crc.apart d))
theorem least (P : Nat → Bool) : ∀ n, P n = true → ∃ c, c ≤ n ∧ P c = true ∧ ∀ j, j < c → P j = false := by
  intro n
  induction n using Nat.strongRecOn with
  | ind n ih =>
    intro h
    by_cases hj : ∃ j, j < n ∧ P j = true
    · obtain ⟨j, h1, h2⟩ := hj
      obtain ⟨c, h3, h4, h5⟩ := ih j h1 h2
      exact ⟨c, by omega, h4, h5⟩
    · refine ⟨n, Nat.le_refl _, h, fun j h1 => ?_⟩
      cases h2 : P j with
      | false => rfl
      | true => exact absurd ⟨j, h1, h2⟩ hj
theorem apart_len (d : Nat) (h : 1 ≤ d) : (Crc.apart d).length = d + 1 := by simp [Crc.apart, Crc.zer]; omega
theorem apart_ob (d : Nat) (h : 1 ≤ d) : ((⟨#[49]⟩ : ByteArray) ++ ob (Crc.zer (d - 1))) ++ (⟨#[49]⟩ : ByteArray) = ob (Crc.apart d) := by
  rw [e49o, ← ob_append, ← ob_append]
  rfl
theorem W_iff (p : ByteArray) (d : Nat) : W p d = true ↔ Crc.rst (pt p) (Crc.apart d) = Crc.zer (pt p).length := by
  unfold W
  rw [allz_iff, Crc.rst_length]
theorem W_short {p : ByteArray} (d : Nat) (h1 : 1 ≤ d) (h : d + 1 ≤ (pt p).length) : W p d = false := by
  unfold W
  rw [Crc.rst_short (by rw [apart_len d h1]; exact h)]
  unfold allz Crc.apart
  simp
theorem cyc_there {p : ByteArray} (hp : okPoly p = true) : ∃ c, 1 ≤ c ∧ c ≤ 256 ∧ p.size ≤ c + 1 ∧ W p c = true ∧ ∀ j, 1 ≤ j → j < c → W p j = false := by
  have hz := okPoly_size hp
  obtain ⟨n, h1, h2, h3⟩ := Crc.cycle_there (pt_last hp)
  have hn : W p n = true := (W_iff p n).2 ((Crc.apart_iff h1).2 h3)
  obtain ⟨c, g1, g2, g3⟩ := least (fun d => decide (1 ≤ d) && W p d) n (by simp [h1, hn])
  simp only [Bool.and_eq_true, decide_eq_true_eq] at g2
  have hp2 : 2 ^ (pt p).length ≤ 2 ^ 8 := Nat.pow_le_pow_right (by omega) (by rw [pt_len]; omega)
  refine ⟨c, g2.1, by omega, ?_, g2.2, fun j j1 j2 => ?_⟩
  · by_cases hs : c + 1 ≤ (pt p).length
    · have := W_short c g2.1 hs
      rw [g2.2] at this; cases this
    · rw [pt_len] at hs; omega
  · have := g3 j j2
    simpa [j1] using this
theorem implC_l0 {p : ByteArray} (hp : okPoly p = true) (c : Nat) (hc : c ≤ 256) (hw : W p c = true) (hm : ∀ j, 1 ≤ j → j < c → W p j = false) : ∀ (d j k : Nat), c - j = d → 1 ≤ j → j ≤ c → d < k →
    impl_CycleOf.l0 k p (j : Int) = some (c : Int) := by
  have hz := okPoly_size hp
  intro d
  induction d with
  | zero =>
    intro j k hd h1 hj hk
    obtain ⟨k, rfl⟩ : ∃ m, k = m + 1 := ⟨k - 1, by omega⟩
    obtain rfl : j = c := by omega
    simp only [impl_CycleOf.l0]
    have e : wrap64 ((j : Int) - 1) = ((j - 1 : Nat) : Int) := by rw [w64 (by omega) (by omega)]; omega
    have hsz : (ob (Crc.zer (j - 1))).size = j - 1 := by rw [ob_len]; simp [Crc.zer]
    have h49 : (⟨#[49]⟩ : ByteArray).size = 1 := rfl
    have hsa : (ob (Crc.apart j)).size = j + 1 := by rw [ob_len, apart_len j h1]
    have hlong : p.size ≤ j + 1 + 1 := by
      by_cases hs : j + 1 ≤ (pt p).length
      · have := W_short j h1 hs
        rw [hw] at this; cases this
      · rw [pt_len] at hs; omega
    rw [e, repeat_some _ (by omega), bsome, if_pos (by omega), if_pos (by rw [ByteArray.size_append]; omega), apart_ob j h1, hsa, w64 (by omega) (by omega), if_pos (by omega),
      implRest_some p _ hp (okBits_ob _) (by omega) (by omega), bsome]
    unfold restB
    rw [none_some _ (by rw [Crc.rst_length, pt_len]; omega), bsome, bo_ob, if_pos (show allz (Crc.rst (pt p) (Crc.apart j)) = true from hw)]
  | succ d ih =>
    intro j k hd h1 hj hk
    obtain ⟨k, rfl⟩ : ∃ m, k = m + 1 := ⟨k - 1, by omega⟩
    simp only [impl_CycleOf.l0]
    have e : wrap64 ((j : Int) - 1) = ((j - 1 : Nat) : Int) := by rw [w64 (by omega) (by omega)]; omega
    have hsz : (ob (Crc.zer (j - 1))).size = j - 1 := by rw [ob_len]; simp [Crc.zer]
    have h49 : (⟨#[49]⟩ : ByteArray).size = 1 := rfl
    have hsa : (ob (Crc.apart j)).size = j + 1 := by rw [ob_len, apart_len j h1]
    have hwj := hm j h1 (by omega)
    rw [e, repeat_some _ (by omega), bsome, if_pos (by omega), if_pos (by rw [ByteArray.size_append]; omega), apart_ob j h1, hsa, w64 (n := (p.size : Int) - 1) (by omega) (by omega), w64s (by omega)]
    by_cases hl : ((j + 1 : Nat) : Int) ≥ (p.size : Int) - 1
    · rw [if_pos hl, implRest_some p _ hp (okBits_ob _) (by omega) (by omega), bsome]
      unfold restB
      rw [none_some _ (by rw [Crc.rst_length, pt_len]; omega), bsome, bo_ob, if_neg (by unfold W at hwj; rw [hwj]; simp)]
      exact ih (j + 1) k (by omega) (by omega) (by omega) (by omega)
    · rw [if_neg hl]
      exact ih (j + 1) k (by omega) (by omega) (by omega) (by omega)
theorem remain_short (p s : ByteArray) (h : s.size < p.size) (hb : p.size ≤ 1000000) (k : Nat) (hk : 1 ≤ k) : spec_remainder.f k p s = some s := by
  obtain ⟨k, rfl⟩ : ∃ m, k = m + 1 := ⟨k - 1, by omega⟩
  unfold spec_remainder.f
  rw [w64 (by omega) (by omega)]
  simp only [spec_remainder.l0]
  rw [w64 (n := 0 + ((p.size : Int) - 1)) (by omega) (by omega), if_neg (by omega), w64 (n := (s.size : Int) - ((p.size : Int) - 1)) (by omega) (by omega)]
  by_cases h0 : (s.size : Int) - ((p.size : Int) - 1) ≤ 0
  · have e : mx ((s.size : Int) - ((p.size : Int) - 1)) 0 = 0 := by unfold mx; split <;> omega
    rw [e, if_pos (by omega), if_pos (by omega)]
    congr 1
    simp
  · have e : mx ((s.size : Int) - ((p.size : Int) - 1)) 0 = 0 := by unfold mx; split <;> omega
    rw [e, if_pos (by omega), if_pos (by omega)]
    congr 1
    simp
theorem whole_apart {p : ByteArray} (hp : okPoly p = true) (j : Nat) (h1 : 1 ≤ j) (hj : j ≤ 256) (k : Nat) (hk : 400 < k) : spec_whole.f k p (ob (Crc.apart j)) = some (W p j) := by
  have hz := okPoly_size hp
  have hsa : (ob (Crc.apart j)).size = j + 1 := by rw [ob_len, apart_len j h1]
  by_cases hl : p.size ≤ j + 1 + 1
  · rw [whole_some p _ hp (okBits_ob _) (by omega) (by omega) k (by omega), bo_ob]; rfl
  · unfold spec_whole.f
    rw [remain_short p _ (by omega) (by omega) k (by omega), bsome]
    obtain ⟨n, h2, h3⟩ := ones_some (Crc.apart j) (by rw [apart_len j h1]; omega) k (by rw [apart_len j h1]; omega)
    rw [h2, bsome, h3, W_short j h1 (by rw [pt_len]; omega)]
    simp [allz, Crc.apart]
theorem specC_l0 {p : ByteArray} (hp : okPoly p = true) (c : Nat) (hc : c ≤ 256) (hlong : p.size ≤ c + 1) (hw : W p c = true) (hm : ∀ j, 1 ≤ j → j < c → W p j = false) : ∀ (d j k : Nat), c - j = d → 1 ≤ j → j ≤ c → d + 500 < k →
    spec_CycleOf.l0 k p (j : Int) = some (c : Int) := by
  have hz := okPoly_size hp
  intro d
  induction d with
  | zero =>
    intro j k hd h1 hj hk
    obtain ⟨k, rfl⟩ : ∃ m, k = m + 1 := ⟨k - 1, by omega⟩
    obtain rfl : j = c := by omega
    simp only [spec_CycleOf.l0]
    have e : wrap64 ((j : Int) - 1) = ((j - 1 : Nat) : Int) := by rw [w64 (by omega) (by omega)]; omega
    have hsz : (ob (Crc.zer (j - 1))).size = j - 1 := by rw [ob_len]; simp [Crc.zer]
    have h49 : (⟨#[49]⟩ : ByteArray).size = 1 := rfl
    rw [e, zeros_some _ _ (by omega) (by omega), bsome, if_pos (by omega), if_pos (by rw [ByteArray.size_append]; omega), apart_ob j h1, whole_apart hp j h1 hc k (by omega), bsome, if_pos hw, w64 (n := (p.size : Int) - 1) (by omega) (by omega),
      if_neg (by omega)]
  | succ d ih =>
    intro j k hd h1 hj hk
    obtain ⟨k, rfl⟩ : ∃ m, k = m + 1 := ⟨k - 1, by omega⟩
    simp only [spec_CycleOf.l0]
    have e : wrap64 ((j : Int) - 1) = ((j - 1 : Nat) : Int) := by rw [w64 (by omega) (by omega)]; omega
    have hsz : (ob (Crc.zer (j - 1))).size = j - 1 := by rw [ob_len]; simp [Crc.zer]
    have h49 : (⟨#[49]⟩ : ByteArray).size = 1 := rfl
    have hwj := hm j h1 (by omega)
    rw [e, zeros_some _ _ (by omega) (by omega), bsome, if_pos (by omega), if_pos (by rw [ByteArray.size_append]; omega), apart_ob j h1, whole_apart hp j h1 (by omega) k (by omega), bsome, if_neg (by rw [hwj]; simp), w64s (by omega)]
    exact ih (j + 1) k (by omega) (by omega) (by omega) (by omega)
theorem cyc_some (p : ByteArray) (hs : p.size ≤ 10000000) : ∃ c : Int, (∀ k, 1000 + p.size ≤ k → impl_CycleOf.f k p = some c ∧ spec_CycleOf.f k p = some c) ∧
    (okPoly p = false → c = -1) ∧ (okPoly p = true → ∃ n : Nat, c = n ∧ 1 ≤ n ∧ n ≤ 256 ∧ p.size ≤ n + 1 ∧ W p n = true ∧ ∀ j, 1 ≤ j → j < n → W p j = false) := by
  cases hp : okPoly p with
  | false =>
    refine ⟨-1, fun k hk => ⟨?_, ?_⟩, fun _ => rfl, fun h => by cases h⟩
    · unfold impl_CycleOf.f
      rw [implPoly_some p (by omega), bsome, hp, if_neg (by simp)]
    · unfold spec_CycleOf.f
      rw [specPoly_some p (by omega) k (by omega), bsome, hp, if_neg (by simp)]
  | true =>
    obtain ⟨c, h1, h2, h3, h4, h5⟩ := cyc_there hp
    refine ⟨(c : Int), fun k hk => ⟨?_, ?_⟩, (fun h => by cases h), fun _ => ⟨c, rfl, h1, h2, h3, h4, h5⟩⟩
    · unfold impl_CycleOf.f
      rw [implPoly_some p (by omega), bsome, hp, if_pos rfl]
      exact implC_l0 hp c h2 h4 h5 (c - 1) 1 k rfl (by omega) h1 (by omega)
    · unfold spec_CycleOf.f
      rw [specPoly_some p (by omega) k (by omega), bsome, hp, if_pos rfl]
      exact specC_l0 hp c h2 h3 h4 h5 (c - 1) 1 k rfl (by omega) h1 (by omega)

end Go.Proofs.YtmkcmkkpeimldaaDoor.Pure
