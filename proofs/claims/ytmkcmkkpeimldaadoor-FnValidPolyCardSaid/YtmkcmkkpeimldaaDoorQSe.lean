/- Sealed bits: both programs. -/
import Derived.Test.YtmkcmkkpeimldaaDoorPx10
import Derived.Test.YtmkcmkkpeimldaaDoorPx11
import Derived.Test.YtmkcmkkpeimldaaDoorPx8
import Derived.Test.YtmkcmkkpeimldaaDoorPx9
import Derived.Test.YtmkcmkkpeimldaaDoorQR
namespace Go.Proofs.YtmkcmkkpeimldaaDoor.Pure
open Go.RowKit Go.Proofs.YtmkcmkkpeimldaaDoor.P Go.Proofs.YtmkcmkkpeimldaaDoorW.PrintWords Go.Proofs.YtmkcmkkpeimldaaDoorW.PrintLast
set_option linter.unusedVariables false
set_option linter.unusedSimpArgs false

/-! Sealed bits. -/
def allz (l : List Bool) : Bool := l.all (fun b => !b)
theorem allz_iff (l : List Bool) : allz l = true ↔ l = Crc.zer l.length := by
  unfold allz Crc.zer
  rw [List.all_eq_true, List.eq_replicate_iff]
  constructor
  · intro h
    exact ⟨rfl, fun b hb => by have := h b hb; simpa using this⟩
  · intro h b hb
    rw [h.2 b hb]; rfl
theorem none_some (l : List Bool) (hl : l.length ≤ 1000000) : impl_none.f (ob l) = some (allz l) := by
  unfold impl_none.f
  obtain ⟨t, ht, he⟩ := Trim_some (ob l) (⟨#[48]⟩ : ByteArray) (by rw [ob_len]; omega) (by decide) (by decide)
  rw [ht, bsome]
  have h1 : (bl (ob l)).all ((bl (⟨#[48]⟩ : ByteArray)).contains ·) = allz l := by
    rw [bl_ob, List.all_map]
    unfold allz
    congr 1
    funext b
    cases b <;> rfl
  rw [h1] at he
  congr 1
  cases h : allz l <;> rw [h] at he <;> simpa using he
theorem ones_l0 (s : ByteArray) (hb : okBits s = true) (hs : s.size ≤ 1000000) : ∀ (d j k acc : Nat), s.size - j = d → j ≤ s.size → acc ≤ j → d < k →
    spec_ones.l0 k s (acc : Int) (j : Int) = some (((acc + ((bo s).drop j).count true : Nat) : Int)) := by
  intro d
  induction d with
  | zero =>
    intro j k acc hd hj ha hk
    obtain ⟨k, rfl⟩ : ∃ m, k = m + 1 := ⟨k - 1, by omega⟩
    simp only [spec_ones.l0]
    rw [if_neg (by omega), List.drop_eq_nil_of_le (by rw [bo_len]; omega)]
    rfl
  | succ d ih =>
    intro j k acc hd hj ha hk
    obtain ⟨k, rfl⟩ : ∃ m, k = m + 1 := ⟨k - 1, by omega⟩
    simp only [spec_ones.l0]
    have hjl : j < (bo s).length := by rw [bo_len]; omega
    rw [if_pos (show (j : Int) < (s.size : Int) by omega), if_pos (show (0 : Int) ≤ (j : Int) by omega), w64s (by omega), w64s (by omega), bit_at s hb j (by omega), List.drop_eq_getElem_cons hjl]
    cases (bo s)[j] with
    | true =>
      rw [if_pos (show ib true = 49 from rfl), ih (j + 1) k (acc + 1) (by omega) (by omega) (by omega) (by omega), List.count_cons_self]
      congr 2
      omega
    | false =>
      rw [if_neg (by decide), ih (j + 1) k acc (by omega) (by omega) (by omega) (by omega), List.count_cons_of_ne (by decide)]
theorem ones_some (l : List Bool) (hl : l.length ≤ 1000000) (k : Nat) (hk : l.length < k) : ∃ n : Int, spec_ones.f k (ob l) = some n ∧ (n == 0) = allz l := by
  unfold spec_ones.f
  have := ones_l0 (ob l) (okBits_ob l) (by rw [ob_len]; exact hl) (ob l).size 0 k 0 (by omega) (by omega) (by omega) (by rw [ob_len]; exact hk)
  refine ⟨_, this, ?_⟩
  rw [List.drop_zero, bo_ob, Nat.zero_add, Bool.eq_iff_iff, beq_iff_eq]
  unfold allz
  rw [List.all_eq_true]
  constructor
  · intro h b hb
    have h0 : l.count true = 0 := by omega
    rw [List.count_eq_zero] at h0
    cases b with
    | false => rfl
    | true => exact absurd hb h0
  · intro h
    have h0 : l.count true = 0 := by
      rw [List.count_eq_zero]
      intro hb
      have := h _ hb
      simp at this
    omega
theorem whole_some (p s : ByteArray) (hp : okPoly p = true) (hb : okBits s = true) (h1 : p.size ≤ s.size + 1) (hs : s.size ≤ 100000) (k : Nat) (hk : s.size + 40 < k) : spec_whole.f k p s = some (allz (Crc.rst (pt p) (bo s))) := by
  have hz := okPoly_size hp
  unfold spec_whole.f
  rw [specRem_some p s hp hb h1 (by omega) k (by omega), bsome]
  obtain ⟨n, h2, h3⟩ := ones_some (Crc.rst (pt p) (bo s)) (by rw [Crc.rst_length, pt_len]; omega) k (by rw [Crc.rst_length, pt_len]; omega)
  unfold restB
  rw [h2, bsome, h3]
theorem nil_toList : (tb []).toList = ([] : List UInt8) := (toList_nil_iff _).2 rfl
def isB (p s : ByteArray) : Bool := (okPoly p && (okBits s && decide (s.size ≤ 40)) && decide (p.size - 1 ≤ s.size)) && allz (Crc.rst (pt p) (bo s))
theorem implI_some (p s : ByteArray) (hp : p.size ≤ 10000000) (hs : s.size ≤ 10000000) : impl_IsSealed.f p s = some (isB p s) := by
  unfold impl_IsSealed.f
  rw [implR_some p s hp hs, bsome]
  unfold rB isB
  by_cases h : okPoly p = true ∧ okBits s = true ∧ s.size ≤ 40 ∧ p.size - 1 ≤ s.size
  · have hz := okPoly_size h.1
    rw [if_pos h, if_neg (fun e => by have := (toList_nil_iff _).1 e; rw [restB_len] at this; omega)]
    unfold restB
    rw [none_some _ (by rw [Crc.rst_length, pt_len]; omega), bsome]
    simp [h.1, h.2.1, h.2.2.1, h.2.2.2]
  · rw [if_neg h, if_pos nil_toList]
    congr 1
    symm
    rw [Bool.and_eq_false_iff]
    left
    cases h1 : okPoly p <;> cases h2 : okBits s <;> simp_all
theorem specI_some (p s : ByteArray) (hp : p.size ≤ 10000000) (hs : s.size ≤ 10000000) (k : Nat) (hk : p.size + s.size + 100 < k) : spec_IsSealed.f k p s = some (isB p s) := by
  unfold spec_IsSealed.f isB
  rw [specPoly_some p (by omega) k (by omega), bsome]
  cases h1 : okPoly p with
  | false => rw [if_neg (by simp)]; rfl
  | true =>
    have hz := okPoly_size h1
    rw [if_pos rfl, validBits_some s (by omega) k (by omega), bsome, w64 (by omega) (by omega)]
    by_cases h2 : okBits s = true ∧ s.size ≤ 40
    · have h20 : (okBits s && decide (s.size ≤ 40)) = true := by simp [h2.1, h2.2]
      rw [if_pos h20, h20]
      by_cases h3 : (s.size : Int) ≥ (p.size : Int) - 1
      · rw [if_pos h3, whole_some p s h1 h2.1 (by omega) (by omega) k (by omega), bsome, decide_eq_true (show p.size - 1 ≤ s.size by omega)]; rfl
      · rw [if_neg h3, decide_eq_false (show ¬ p.size - 1 ≤ s.size by omega)]; rfl
    · have h20 : (okBits s && decide (s.size ≤ 40)) = false := by
        cases h4 : okBits s with
        | false => rfl
        | true => have : ¬ s.size ≤ 40 := fun h => h2 ⟨h4, h⟩; simp [this]
      rw [if_neg (by rw [h20]; simp), h20]; rfl
/-! Noughts. -/
theorem zer_succ (n : Nat) : Crc.zer (n + 1) = Crc.zer n ++ [false] := by unfold Crc.zer; rw [List.replicate_succ']
theorem e48o : (⟨#[48]⟩ : ByteArray) = ob [false] := rfl
theorem e49o : (⟨#[49]⟩ : ByteArray) = ob [true] := rfl
theorem zeros_l0 : ∀ (d k a : Nat), a + d ≤ 1000000 → d < k → spec_zeros.l0 k (d : Int) (ob (Crc.zer a)) = some (ob (Crc.zer (a + d))) := by
  intro d
  induction d with
  | zero =>
    intro k a ha hk
    obtain ⟨k, rfl⟩ : ∃ m, k = m + 1 := ⟨k - 1, by omega⟩
    simp only [spec_zeros.l0]
    rw [if_neg (by omega)]; rfl
  | succ d ih =>
    intro k a ha hk
    obtain ⟨k, rfl⟩ : ∃ m, k = m + 1 := ⟨k - 1, by omega⟩
    simp only [spec_zeros.l0]
    have e : wrap64 (((d + 1 : Nat) : Int) - 1) = (d : Int) := by rw [w64 (by omega) (by omega)]; omega
    rw [if_pos (by omega), if_pos (by rw [ob_len]; simp [Crc.zer]; omega), e, e48o, ← ob_append, ← zer_succ, ih k (a + 1) (by omega) (by omega), show a + 1 + d = a + (d + 1) by omega]
theorem zeros_some (n k : Nat) (hn : n ≤ 1000000) (hk : n < k) : spec_zeros.f k (n : Int) = some (ob (Crc.zer n)) := by
  unfold spec_zeros.f
  have := zeros_l0 n k 0 (by omega) hk
  rw [Nat.zero_add] at this
  exact this
theorem repeat_some (n : Nat) (hn : n ≤ 1000000) : strings_Repeat.f (⟨#[48]⟩ : ByteArray) (n : Int) = some (ob (Crc.zer n)) := by
  unfold strings_Repeat.f
  rw [if_pos ⟨by omega, by omega, by decide⟩, Int.toNat_natCast]
  congr 1
  have : Lib.repeatL [48] n = List.replicate n 48 := by
    have := Lib.repeatL_replicate 48 1 n
    simpa using this
  show (⟨(Lib.repeatL [48] n).toArray⟩ : ByteArray) = ob (Crc.zer n)
  rw [this]
  unfold ob tb Crc.zer
  rw [List.map_replicate, List.map_replicate]
  rfl
/-- What SealBits is. -/
def sB (p s : ByteArray) : ByteArray := if okPoly p = true ∧ okBits s = true ∧ s.size + (p.size - 1) ≤ 40 then s ++ restB p (s ++ ob (Crc.zer (p.size - 1))) else tb []
theorem specSeal_some (p s : ByteArray) (hp : p.size ≤ 10000000) (hs : s.size ≤ 9000000) (k : Nat) (hk : p.size + s.size + 200 < k) : spec_SealBits.f k p s = some (sB p s) := by
  obtain ⟨k, rfl⟩ : ∃ m, k = m + 1 := ⟨k - 1, by omega⟩
  unfold spec_SealBits.f sB
  rw [specPoly_some p (by omega) _ (by omega), bsome]
  cases h1 : okPoly p with
  | false =>
    rw [if_neg (by simp), if_neg (by simp)]
    simp only [spec_SealBits.j0, if_true]
    rfl
  | true =>
    have hz := okPoly_size h1
    have e : wrap64 ((p.size : Int) - 1) = ((p.size - 1 : Nat) : Int) := by rw [w64 (by omega) (by omega)]; omega
    have hsz : (ob (Crc.zer (p.size - 1))).size = p.size - 1 := by rw [ob_len]; simp [Crc.zer]
    have hsa : (s ++ ob (Crc.zer (p.size - 1))).size = s.size + (p.size - 1) := by rw [ByteArray.size_append, hsz]
    have hok : okBits (s ++ ob (Crc.zer (p.size - 1))) = okBits s := by rw [okBits_append, okBits_ob, Bool.and_true]
    rw [if_pos rfl, e, zeros_some _ _ (by omega) (by omega), bsome, if_pos (by omega), validBits_some _ (by omega) _ (by omega), bsome, hok, hsa]
    simp only [spec_SealBits.j0]
    by_cases h2 : okBits s = true ∧ s.size + (p.size - 1) ≤ 40
    · have h20 : (!(okBits s && decide (s.size + (p.size - 1) ≤ 40))) = false := by simp [h2.1]; exact h2.2
      rw [if_neg (by rw [h20]; simp), e, zeros_some _ _ (by omega) (by omega), bsome, if_pos (by omega), specRem_some p _ h1 (by rw [hok]; exact h2.1) (by omega) (by omega) _ (by omega), bsome, if_pos (by rw [restB_len]; omega),
        if_pos ⟨by trivial, h2.1, h2.2⟩]
    · have h20 : (!(okBits s && decide (s.size + (p.size - 1) ≤ 40))) = true := by
        cases h4 : okBits s with
        | false => rfl
        | true => have : ¬ s.size + (p.size - 1) ≤ 40 := fun h => h2 ⟨h4, h⟩; simp [this]
      rw [if_pos h20, if_neg (fun h => h2 h.2)]
      rfl
theorem implSeal_some (p s : ByteArray) (hp : p.size ≤ 10000000) (hs : s.size ≤ 9000000) (k : Nat) (hk : 1 ≤ k) : impl_SealBits.f k p s = some (sB p s) := by
  obtain ⟨k, rfl⟩ : ∃ m, k = m + 1 := ⟨k - 1, by omega⟩
  unfold impl_SealBits.f sB
  rw [implPoly_some p (by omega), bsome]
  cases h1 : okPoly p with
  | false =>
    rw [if_neg (by simp), if_neg (by simp)]
    simp only [impl_SealBits.j0, if_true]
    rfl
  | true =>
    have hz := okPoly_size h1
    have e : wrap64 ((p.size : Int) - 1) = ((p.size - 1 : Nat) : Int) := by rw [w64 (by omega) (by omega)]; omega
    have hsz : (ob (Crc.zer (p.size - 1))).size = p.size - 1 := by rw [ob_len]; simp [Crc.zer]
    have hsa : (s ++ ob (Crc.zer (p.size - 1))).size = s.size + (p.size - 1) := by rw [ByteArray.size_append, hsz]
    have hok : okBits (s ++ ob (Crc.zer (p.size - 1))) = okBits s := by rw [okBits_append, okBits_ob, Bool.and_true]
    rw [if_pos rfl, valid_some s (by omega), bsome]
    cases h4 : okBits s with
    | false =>
      rw [if_neg (by simp)]
      simp only [impl_SealBits.j0, if_true]
      rw [if_neg (by simp)]
      rfl
    | true =>
      have e2 : wrap64 (wrap64 ((s.size : Int) + (p.size : Int)) - 1) = ((s.size + (p.size - 1) : Nat) : Int) := by rw [w64 (n := (s.size : Int) + p.size) (by omega) (by omega), w64 (by omega) (by omega)]; omega
      rw [e2]
      simp only [impl_SealBits.j0, Bool.true_and]
      by_cases h3 : s.size ≤ 40
      · rw [if_pos (by simpa using h3)]
        by_cases h2 : s.size + (p.size - 1) ≤ 40
        · have h20 : decide (((s.size + (p.size - 1) : Nat) : Int) > 40) = false := by simp; omega
          rw [if_neg (by rw [h20]; simp), e, repeat_some _ (by omega), bsome, if_pos (by omega), implRest_some p _ h1 (by rw [hok]; exact h4) (by omega) (by omega), bsome, if_pos (by rw [restB_len]; omega),
            if_pos ⟨by trivial, by trivial, h2⟩]
        · have h20 : decide (((s.size + (p.size - 1) : Nat) : Int) > 40) = true := by simp; omega
          rw [if_pos h20, if_neg (fun h => h2 h.2.2)]
          rfl
      · rw [if_neg (by simpa using h3), if_pos (by trivial), if_neg (fun h => by have := h.2.2; omega)]
        rfl

end Go.Proofs.YtmkcmkkpeimldaaDoor.Pure
