/- Fields packed and read back: the program and the reference. -/
import Derived.Test.YtkfbmpllbcladaaPx0
import Derived.Test.YtkfbmpllbcladaaPx10
import Derived.Test.YtkfbmpllbcladaaPx16
import Derived.Test.YtkfbmpllbcladaaPx21
import Derived.Test.YtkfbmpllbcladaaPx22
import Derived.Test.YtkfbmpllbcladaaPx23
import Derived.Test.YtkfbmpllbcladaaPx24
import Derived.Test.YtkfbmpllbcladaaPx25
import Derived.Test.YtkfbmpllbcladaaPx27
import Derived.Test.YtkfbmpllbcladaaPx28
import Derived.Test.YtkfbmpllbcladaaPx29
import Derived.Test.YtkfbmpllbcladaaPx31
import Derived.Test.YtkfbmpllbcladaaPx32
import Derived.Test.YtkfbmpllbcladaaPx33
import Derived.Test.YtkfbmpllbcladaaPx8
import Derived.Test.YtkfbmpllbcladaaQBytes
namespace Go.Proofs.Ytkfbmpllbcladaa.Pure
open Go.RowKit Go.Proofs.Ytkfbmpllbcladaa.P Go.Proofs.YtkfbmpllbcladaaW.PrintWords Go.Proofs.YtkfbmpllbcladaaW.PrintLast
set_option linter.unusedVariables false
set_option linter.unusedSimpArgs false

/-- The bytes of a number by seven bits. -/
def grp (n : Nat) : List Int := if h : n < 128 then [(n : Int)] else ((n % 128 + 128 : Nat) : Int) :: grp (n / 128)
termination_by n
decreasing_by omega

theorem grp_small {n : Nat} (h : n < 128) : grp n = [(n : Int)] := by rw [grp, dif_pos h]
theorem grp_big {n : Nat} (h : ¬ n < 128) : grp n = ((n % 128 + 128 : Nat) : Int) :: grp (n / 128) := by rw [grp, dif_neg h]

theorem implGroups_l0 : ∀ (d n k : Nat) (acc : List Int), n < 128 ^ (d + 1) → d < k → d ≤ 8 → acc.length + d ≤ 1000 → impl_groups.l0 k (n : Int) acc = some (acc ++ grp n) := by
  intro d
  induction d with
  | zero =>
    intro n k acc hn hk hd ha
    obtain ⟨k, rfl⟩ : ∃ m, k = m + 1 := ⟨k - 1, by omega⟩
    simp only [impl_groups.l0]
    rw [if_neg (by omega), if_pos (by omega), grp_small (by omega)]
  | succ d ih =>
    intro n k acc hn hk hd ha
    obtain ⟨k, rfl⟩ : ∃ m, k = m + 1 := ⟨k - 1, by omega⟩
    simp only [impl_groups.l0]
    have hb : n < 9223372036854775808 := Nat.lt_of_lt_of_le hn (Nat.le_trans (Nat.pow_le_pow_right (by decide) (by omega : d + 1 + 1 ≤ 9)) (by decide))
    by_cases h : n < 128
    · rw [if_neg (by omega), if_pos (by omega), grp_small h]
    · have e1 : Int.tdiv (n : Int) 128 = ((n / 128 : Nat) : Int) := by rw [Int.tdiv_eq_ediv_of_nonneg (by omega)]; omega
      have e2 : Int.tmod (n : Int) 128 = ((n % 128 : Nat) : Int) := by rw [Int.tmod_eq_emod_of_nonneg (by omega)]; omega
      rw [if_pos (by omega), if_pos (by omega), e1, e2, w64 (by omega) (by omega), w64 (by omega) (by omega)]
      have : n / 128 < 128 ^ (d + 1) := by
        rw [Nat.div_lt_iff_lt_mul (by decide)]; rw [Nat.pow_succ] at hn; exact hn
      rw [ih (n / 128) k _ this (by omega) (by omega) (by simp; omega), grp_big h]
      simp

theorem implGroups_some (n : Nat) (hn : n ≤ 1000000000000) (k : Nat) (hk : 9 ≤ k) : impl_groups.f k (n : Int) = some (grp n) := by
  unfold impl_groups.f
  rw [implGroups_l0 8 n k [] (by omega) (by omega) (by omega) (by simp)]
  simp

theorem specGroup_l0 : ∀ (d n k : Nat) (acc : List Int), n < 128 ^ (d + 1) → d < k → d ≤ 8 → acc.length + d ≤ 1000 → spec_group.l0 k (n : Int) acc = some (acc ++ grp n) := by
  intro d
  induction d with
  | zero =>
    intro n k acc hn hk hd ha
    obtain ⟨k, rfl⟩ : ∃ m, k = m + 1 := ⟨k - 1, by omega⟩
    simp only [spec_group.l0]
    rw [if_neg (by omega), if_pos (by omega), grp_small (by omega)]
  | succ d ih =>
    intro n k acc hn hk hd ha
    obtain ⟨k, rfl⟩ : ∃ m, k = m + 1 := ⟨k - 1, by omega⟩
    simp only [spec_group.l0]
    have hb : n < 9223372036854775808 := Nat.lt_of_lt_of_le hn (Nat.le_trans (Nat.pow_le_pow_right (by decide) (by omega : d + 1 + 1 ≤ 9)) (by decide))
    by_cases h : n < 128
    · rw [if_neg (by omega), if_pos (by omega), grp_small h]
    · have e1 : Int.tdiv (n : Int) 128 = ((n / 128 : Nat) : Int) := by rw [Int.tdiv_eq_ediv_of_nonneg (by omega)]; omega
      have e2 : Int.tmod (n : Int) 128 = ((n % 128 : Nat) : Int) := by rw [Int.tmod_eq_emod_of_nonneg (by omega)]; omega
      rw [if_pos (by omega), if_pos (by omega), e1, e2, w64 (by omega) (by omega), w64 (by omega) (by omega)]
      have : n / 128 < 128 ^ (d + 1) := by
        rw [Nat.div_lt_iff_lt_mul (by decide)]; rw [Nat.pow_succ] at hn; exact hn
      rw [ih (n / 128) k _ this (by omega) (by omega) (by simp; omega), grp_big h]
      simp
      omega

theorem specGroup_some (n : Nat) (hn : n ≤ 1000000000000) (k : Nat) (hk : 9 ≤ k) : spec_group.f k (n : Int) = some (grp n) := by
  unfold spec_group.f
  rw [specGroup_l0 8 n k [] (by omega) (by omega) (by omega) (by simp)]
  simp

theorem grp_length_le (d : Nat) : ∀ n, n < 128 ^ (d + 1) → (grp n).length ≤ d + 1 := by
  induction d with
  | zero => intro n h; rw [grp_small (by omega)]; simp
  | succ d ih =>
    intro n h
    by_cases h1 : n < 128
    · rw [grp_small h1]; simp
    · rw [grp_big h1, List.length_cons]
      have := ih (n / 128) (by rw [Nat.div_lt_iff_lt_mul (by decide)]; rw [Nat.pow_succ] at h; exact h)
      omega
theorem grp_length_ge (d : Nat) : ∀ n, 128 ^ d ≤ n → d + 1 ≤ (grp n).length := by
  induction d with
  | zero => intro n h; by_cases h1 : n < 128; rw [grp_small h1]; simp; rw [grp_big h1]; simp
  | succ d ih =>
    intro n h
    have hp : 1 ≤ 128 ^ d := Nat.one_le_pow _ _ (by decide)
    have h1 : ¬ n < 128 := by rw [Nat.pow_succ] at h; omega
    rw [grp_big h1, List.length_cons]
    have := ih (n / 128) (by rw [Nat.le_div_iff_mul_le (by decide)]; rw [Nat.pow_succ] at h; exact h)
    omega

/-- A number read off bytes: x so far, of i bytes; unit 128 to i. -/
def num (x : Nat) : Nat → List Int → Int × Int
  | i, b :: r => if i < 4 then (if b < 128 then (if (0 < i ∧ b = 0) ∨ 1000000 < x + b.toNat * 128 ^ i then (0, 0) else (((x + b.toNat * 128 ^ i : Nat) : Int), (i : Int) + 1)) else num (x + (b.toNat - 128) * 128 ^ i) (i + 1) r) else (0, 0)
  | _, [] => (0, 0)

theorem num_grp : ∀ (d i x v : Nat) (r : List Int), v < 128 ^ (d + 1) → i + d ≤ 3 → x + v * 128 ^ i ≤ 1000000 → (0 < i → 0 < v) → num x i (grp v ++ r) = (((x + v * 128 ^ i : Nat) : Int), (i : Int) + (grp v).length) := by
  intro d
  induction d with
  | zero =>
    intro i x v r hv hi hx h0
    rw [grp_small (by omega)]
    simp only [List.cons_append, List.nil_append, num]
    rw [if_pos (by omega), if_pos (by omega), Int.toNat_natCast, if_neg (by omega)]
    simp
  | succ d ih =>
    intro i x v r hv hi hx h0
    by_cases h1 : v < 128
    · rw [grp_small h1]
      simp only [List.cons_append, List.nil_append, num]
      rw [if_pos (by omega), if_pos (by omega), Int.toNat_natCast, if_neg (by omega)]
      simp
    · rw [grp_big h1]
      simp only [List.cons_append, num]
      rw [if_pos (by omega), if_neg (by omega), Int.toNat_natCast, Nat.add_sub_cancel]
      have e : x + v % 128 * 128 ^ i + v / 128 * 128 ^ (i + 1) = x + v * 128 ^ i := by
        conv => rhs; rw [← Nat.mod_add_div v 128]
        rw [Nat.add_mul, Nat.pow_succ, Nat.add_assoc, Nat.mul_comm 128 (v / 128), Nat.mul_assoc, Nat.mul_comm 128 (128 ^ i)]
      rw [ih (i + 1) (x + v % 128 * 128 ^ i) (v / 128) r (by rw [Nat.div_lt_iff_lt_mul (by decide)]; rw [Nat.pow_succ] at hv; exact hv) (by omega) (by omega) (by omega), e]
      simp; omega

theorem num_back : ∀ (l : List Int) (i x : Nat) (v m : Int), l.all inB = true → num x i l = (v, m) → m ≠ 0 → ∃ (n : Nat), (v = ((x + n * 128 ^ i : Nat) : Int)) ∧ v ≤ 1000000 ∧ m = (i : Int) + (grp n).length ∧ l = grp n ++ l.drop (grp n).length ∧ m ≤ 4 ∧ (0 < i → 0 < n) := by
  intro l
  induction l with
  | nil => intro i x v m _ h hm; simp [num] at h; exact absurd h.2.symm hm
  | cons b r ih =>
    intro i x v m hb h hm
    simp only [List.all_cons, Bool.and_eq_true] at hb
    have hb0 : 0 ≤ b ∧ b ≤ 255 := by have := hb.1; simpa [inB] using this
    simp only [num] at h
    split at h
    · rename_i hi
      split at h
      · rename_i h1
        split at h
        · simp at h; exact absurd h.2.symm hm
        · rename_i h2
          simp only [Prod.mk.injEq] at h
          refine ⟨b.toNat, h.1.symm, by omega, ?_, ?_, by omega, fun h3 => by omega⟩
          · rw [grp_small (by omega)]; simp; omega
          · rw [grp_small (by omega)]; simp; omega
      · rename_i h1
        obtain ⟨n, a1, a2, a3, a4, a5, a6⟩ := ih (i + 1) _ v m hb.2 h hm
        have hn := a6 (by omega)
        refine ⟨(b.toNat - 128) + 128 * n, ?_, a2, ?_, ?_, a5, fun _ => by omega⟩
        · rw [a1, Nat.add_mul, Nat.pow_succ, Nat.add_assoc, Nat.mul_comm 128 n, Nat.mul_assoc, Nat.mul_comm 128 (128 ^ i)]
        · rw [grp_big (by omega), List.length_cons, show ((b.toNat - 128) + 128 * n) / 128 = n by omega, a3]; omega
        · rw [grp_big (by omega), show ((b.toNat - 128) + 128 * n) / 128 = n by omega, List.length_cons, List.drop_succ_cons, List.cons_append, ← a4]
          congr 1; omega
    · simp at h; exact absurd h.2.symm hm

theorem pow_le4 {i : Nat} (h : i ≤ 4) : 1 ≤ 128 ^ i ∧ 128 ^ i ≤ 268435456 := by
  have h1 : i = 0 ∨ i = 1 ∨ i = 2 ∨ i = 3 ∨ i = 4 := by omega
  rcases h1 with h | h | h | h | h <;> subst h <;> decide

theorem grp_exact {i x b : Nat} (hx : x < 128 ^ i) (hb : b < 128) : ((grp (x + b * 128 ^ i)).length = i + 1) ↔ ¬ (0 < i ∧ b = 0) := by
  have hp : 0 < 128 ^ i := Nat.pow_pos (by decide)
  have hlt : x + b * 128 ^ i < 128 ^ (i + 1) := by
    have : (b + 1) * 128 ^ i ≤ 128 * 128 ^ i := Nat.mul_le_mul_right _ (by omega)
    rw [Nat.pow_succ, Nat.mul_comm (128 ^ i)]; rw [Nat.add_mul] at this; omega
  have hle := grp_length_le i _ hlt
  by_cases h0 : b = 0
  · subst h0
    simp only [Nat.zero_mul, Nat.add_zero] at *
    by_cases hi : 0 < i
    · obtain ⟨j, rfl⟩ : ∃ j, i = j + 1 := ⟨i - 1, by omega⟩
      have := grp_length_le j x hx
      constructor
      · intro h; omega
      · intro h; exact absurd ⟨hi, trivial⟩ h
    · have : i = 0 := by omega
      subst this
      simp only [Nat.pow_zero] at hx
      rw [grp_small (by omega)]
      simp
  · have : 128 ^ i ≤ x + b * 128 ^ i := by
      have : 1 * 128 ^ i ≤ b * 128 ^ i := Nat.mul_le_mul_right _ (by omega)
      omega
    have := grp_length_ge i _ this
    constructor
    · intro _ h; exact h0 h.2
    · intro _; omega

theorem implNum_l0 (l : List Int) (hl : l.length ≤ 1000000) (hb : l.all inB = true) : ∀ (d i k x : Nat), 4 - i ≤ d → i ≤ l.length → i ≤ 4 → 2 * d + 20 ≤ k → x < 128 ^ i →
    impl_numberAt.l0 k l (x : Int) ((128 ^ i : Nat) : Int) (i : Int) = some (num x i (l.drop i)) := by
  intro d
  induction d with
  | zero =>
    intro i k x hd hi h4 hk hx
    obtain ⟨k, rfl⟩ : ∃ m, k = m + 2 := ⟨k - 2, by omega⟩
    have : i = 4 := by omega
    subst this
    simp only [impl_numberAt.l0]
    have e : (if ((4 : Nat) : Int) < (l.length : Int) then impl_numberAt.j1 (k + 1) l (x : Int) ((128 ^ 4 : Nat) : Int) ((4 : Nat) : Int) (decide (((4 : Nat) : Int) < 4)) else impl_numberAt.j1 (k + 1) l (x : Int) ((128 ^ 4 : Nat) : Int) ((4 : Nat) : Int) false) = some (0, 0) := by
      split <;> simp [impl_numberAt.j1]
    rw [e]
    cases h : l.drop 4 with
    | nil => rfl
    | cons b r => simp only [num]; rw [if_neg (by omega)]
  | succ d ih =>
    intro i k x hd hi h4 hk hx
    obtain ⟨k, rfl⟩ : ∃ m, k = m + 2 := ⟨k - 2, by omega⟩
    simp only [impl_numberAt.l0]
    by_cases h1 : i < l.length
    · have hbi : 0 ≤ l[i] ∧ l[i] ≤ 255 := by
        have := List.all_eq_true.1 hb _ (List.getElem_mem h1)
        simpa [inB] using this
      rw [if_pos (by omega), List.drop_eq_getElem_cons h1]
      simp only [num]
      by_cases h2 : i < 4
      · have hp := pow_le4 (by omega : i ≤ 4)
        have hp1 := pow_le4 (by omega : i + 1 ≤ 4)
        rw [decide_eq_true (by omega : (i : Int) < 4), if_pos h2]
        simp only [impl_numberAt.j1, if_true]
        rw [if_pos (by omega), if_pos (by omega), rd_nat l i h1]
        obtain ⟨b, hbn⟩ := Int.eq_ofNat_of_zero_le hbi.1
        rw [hbn] at hbi ⊢
        have e0 : Int.tmod (b : Int) 128 = ((b % 128 : Nat) : Int) := by rw [Int.tmod_eq_emod_of_nonneg (by omega)]; omega
        have hm : b % 128 * 128 ^ i ≤ 127 * 268435456 := Nat.mul_le_mul (by omega) hp.2
        have e1 : ((b % 128 : Nat) : Int) * ((128 ^ i : Nat) : Int) = ((b % 128 * 128 ^ i : Nat) : Int) := by rw [Int.natCast_mul]
        have e2 : (x : Int) + ((b % 128 * 128 ^ i : Nat) : Int) = ((x + b % 128 * 128 ^ i : Nat) : Int) := by rw [Int.natCast_add]
        rw [e0, e1, w64 (n := ((b % 128 * 128 ^ i : Nat) : Int)) (by omega) (by omega), e2, w64 (n := ((x + b % 128 * 128 ^ i : Nat) : Int)) (by omega) (by omega), w64s (by omega)]
        by_cases h3 : (b : Int) < 128
        · have e3 : b % 128 = b := Nat.mod_eq_of_lt (by omega)
          rw [if_pos h3, if_pos h3, e3, Int.toNat_natCast]
          rw [e3] at hm
          by_cases h5 : 1000000 < x + b * 128 ^ i
          · rw [if_pos (by omega), if_pos (Or.inr h5)]
          · rw [if_neg (by omega), implGroups_some _ (by omega) k (by omega)]
            simp only [bsome]
            have hex := grp_exact hx (by omega : b < 128)
            by_cases h6 : 0 < i ∧ b = 0
            · rw [if_neg (by intro e; exact (hex.1 (by omega)) h6), if_pos (Or.inl ⟨h6.1, by omega⟩)]
            · rw [if_pos (by have := hex.2 h6; omega), if_neg (by omega)]
              simp
        · rw [if_neg h3, if_neg h3, show ((128 ^ i : Nat) : Int) * 128 = ((128 ^ (i + 1) : Nat) : Int) by rw [Nat.pow_succ, Int.natCast_mul]; rfl, w64 (by omega) (by omega)]
          have e4 : b % 128 = b - 128 := by omega
          have hx' : x + b % 128 * 128 ^ i < 128 ^ (i + 1) := by
            have : (b % 128 + 1) * 128 ^ i ≤ 128 * 128 ^ i := Nat.mul_le_mul_right _ (by omega)
            rw [Nat.pow_succ, Nat.mul_comm (128 ^ i)]; rw [Nat.add_mul] at this; omega
          rw [ih (i + 1) k _ (by omega) (by omega) (by omega) (by omega) hx', e4, Int.toNat_natCast]
      · rw [decide_eq_false (by omega : ¬ (i : Int) < 4), if_neg h2]
        simp [impl_numberAt.j1]
    · rw [if_neg (by omega), List.drop_eq_nil_of_le (by omega)]
      simp [impl_numberAt.j1, num]

theorem implNum_some (l : List Int) (hl : l.length ≤ 1000000) (hb : l.all inB = true) (k : Nat) (hk : 40 ≤ k) : impl_numberAt.f k l = some (num 0 0 l) := by
  have := implNum_l0 l hl hb 4 0 k 0 (by omega) (by omega) (by omega) (by omega) (by decide)
  unfold impl_numberAt.f
  simpa using this

theorem specNum_l0 (l : List Int) (hl : l.length ≤ 1000000) (hb : l.all inB = true) : ∀ (d i k x : Nat), 4 - i ≤ d → i ≤ l.length → i ≤ 4 → 2 * d + 20 ≤ k → x < 128 ^ i →
    spec_readGroups.l0 k l (x : Int) ((128 ^ i : Nat) : Int) (i : Int) = some (num x i (l.drop i)) := by
  intro d
  induction d with
  | zero =>
    intro i k x hd hi h4 hk hx
    obtain ⟨k, rfl⟩ : ∃ m, k = m + 2 := ⟨k - 2, by omega⟩
    have : i = 4 := by omega
    subst this
    simp only [spec_readGroups.l0]
    have e : (if ((4 : Nat) : Int) < (l.length : Int) then spec_readGroups.j1 (k + 1) l (x : Int) ((128 ^ 4 : Nat) : Int) ((4 : Nat) : Int) (decide (((4 : Nat) : Int) < 4)) else spec_readGroups.j1 (k + 1) l (x : Int) ((128 ^ 4 : Nat) : Int) ((4 : Nat) : Int) false) = some (0, 0) := by
      split <;> simp [spec_readGroups.j1]
    rw [e]
    cases h : l.drop 4 with
    | nil => rfl
    | cons b r => simp only [num]; rw [if_neg (by omega)]
  | succ d ih =>
    intro i k x hd hi h4 hk hx
    obtain ⟨k, rfl⟩ : ∃ m, k = m + 2 := ⟨k - 2, by omega⟩
    simp only [spec_readGroups.l0]
    by_cases h1 : i < l.length
    · have hbi : 0 ≤ l[i] ∧ l[i] ≤ 255 := by
        have := List.all_eq_true.1 hb _ (List.getElem_mem h1)
        simpa [inB] using this
      rw [if_pos (by omega), List.drop_eq_getElem_cons h1]
      simp only [num]
      by_cases h2 : i < 4
      · have hp := pow_le4 (by omega : i ≤ 4)
        have hp1 := pow_le4 (by omega : i + 1 ≤ 4)
        rw [decide_eq_true (by omega : (i : Int) < 4), if_pos h2]
        simp only [spec_readGroups.j1, if_true]
        rw [if_pos (by omega), if_pos (by omega), rd_nat l i h1]
        obtain ⟨b, hbn⟩ := Int.eq_ofNat_of_zero_le hbi.1
        rw [hbn] at hbi ⊢
        have e0 : Int.tmod (b : Int) 128 = ((b % 128 : Nat) : Int) := by rw [Int.tmod_eq_emod_of_nonneg (by omega)]; omega
        have hm : b % 128 * 128 ^ i ≤ 127 * 268435456 := Nat.mul_le_mul (by omega) hp.2
        have e1 : ((b % 128 : Nat) : Int) * ((128 ^ i : Nat) : Int) = ((b % 128 * 128 ^ i : Nat) : Int) := by rw [Int.natCast_mul]
        have e2 : (x : Int) + ((b % 128 * 128 ^ i : Nat) : Int) = ((x + b % 128 * 128 ^ i : Nat) : Int) := by rw [Int.natCast_add]
        rw [e0, e1, w64 (n := ((b % 128 * 128 ^ i : Nat) : Int)) (by omega) (by omega), e2, w64 (n := ((x + b % 128 * 128 ^ i : Nat) : Int)) (by omega) (by omega), w64s (by omega)]
        by_cases h3 : (b : Int) < 128
        · have e3 : b % 128 = b := Nat.mod_eq_of_lt (by omega)
          rw [if_pos h3, if_pos h3, e3, Int.toNat_natCast]
          rw [e3] at hm
          by_cases hi0 : (i : Int) > 0
          · rw [if_pos hi0]
            by_cases hb0 : (b : Int) = 0
            · rw [if_pos hb0, if_pos (Or.inl ⟨by omega, hb0⟩)]
            · rw [if_neg hb0]
              by_cases h5 : 1000000 < x + b * 128 ^ i
              · rw [if_pos (by omega), if_pos (Or.inr h5)]
              · rw [if_neg (by omega), if_neg (by omega)]; simp
          · rw [if_neg hi0]
            by_cases h5 : 1000000 < x + b * 128 ^ i
            · rw [if_pos (by omega), if_pos (Or.inr h5)]
            · rw [if_neg (by omega), if_neg (by omega)]; simp
        · rw [if_neg h3, if_neg h3, show (128 : Int) * ((128 ^ i : Nat) : Int) = ((128 ^ (i + 1) : Nat) : Int) by rw [Nat.pow_succ, Int.natCast_mul, Int.mul_comm]; rfl, w64 (by omega) (by omega)]
          have e4 : b % 128 = b - 128 := by omega
          have hx' : x + b % 128 * 128 ^ i < 128 ^ (i + 1) := by
            have : (b % 128 + 1) * 128 ^ i ≤ 128 * 128 ^ i := Nat.mul_le_mul_right _ (by omega)
            rw [Nat.pow_succ, Nat.mul_comm (128 ^ i)]; rw [Nat.add_mul] at this; omega
          rw [ih (i + 1) k _ (by omega) (by omega) (by omega) (by omega) hx', e4, Int.toNat_natCast]
      · rw [decide_eq_false (by omega : ¬ (i : Int) < 4), if_neg h2]
        simp [spec_readGroups.j1]
    · rw [if_neg (by omega), List.drop_eq_nil_of_le (by omega)]
      simp [spec_readGroups.j1, num]

theorem specNum_some (l : List Int) (hl : l.length ≤ 1000000) (hb : l.all inB = true) (k : Nat) (hk : 40 ≤ k) : spec_readGroups.f k l = some (num 0 0 l) := by
  have := specNum_l0 l hl hb 4 0 k 0 (by omega) (by omega) (by omega) (by omega) (by decide)
  unfold spec_readGroups.f
  simpa using this

abbrev Fd := S52
def okF (f : Fd) : Bool := decide (0 ≤ f.f0) && decide (f.f0 ≤ 300) && okB f.f1
def okFs (l : List Fd) : Bool := decide (l.length ≤ 5) && l.all okF
def fenc (f : Fd) : List Int := grp f.f0.toNat ++ grp f.f1.length ++ f.f1
def pack (l : List Fd) : List Int := l.flatMap fenc
theorem pack_cons (f : Fd) (l : List Fd) : pack (f :: l) = fenc f ++ pack l := rfl
def packOf (l : List Fd) : List Int := if okFs l = true then pack l else []

theorem rdF_nat (l : List Fd) (j : Nat) (h : j < l.length) : rd_T52 l (j : Int) = l[j] := by
  unfold rd_T52; rw [Int.toNat_natCast, List.getD_eq_getElem?_getD, List.getElem?_eq_getElem h]; rfl

theorem okB_any (l : List Int) : l.all inB = !(l.any noByte) := by
  induction l with
  | nil => rfl
  | cons x l ih =>
    rw [List.any_cons, List.all_cons, Bool.not_or, ih]
    congr 1
    unfold noByte inB
    by_cases h0 : x < 0 <;> by_cases h1 : 255 < x <;> simp [h0, h1] <;> omega

theorem fieldsOk_some (l : List Fd) : impl_fieldsOk.f l = some (okFs l) := by
  unfold impl_fieldsOk.f okFs
  have : (!(l.any badField)) = l.all okF := by
    induction l with
    | nil => rfl
    | cons x l ih =>
      rw [List.any_cons, List.all_cons, Bool.not_or, ih]
      congr 1
      unfold badField okF okB
      rw [okB_any]
      simp [Bool.not_or]
  rw [this]

theorem validFields_l0 (l : List Fd) (hn : l.length ≤ 1000000) (hb : ∀ f ∈ l, f.f1.length ≤ 1000000) : ∀ (d j k : Nat), l.length - j = d → j ≤ l.length → d + 1000010 ≤ k → spec_validFields.l0 k l (j : Int) = some ((l.drop j).all okF && decide (l.length ≤ 5)) := by
  intro d
  induction d with
  | zero =>
    intro j k hd hj hk
    obtain ⟨k, rfl⟩ : ∃ m, k = m + 1 := ⟨k - 1, by omega⟩
    simp only [spec_validFields.l0]
    rw [if_neg (by omega), List.drop_eq_nil_of_le (by omega)]
    simp
    omega
  | succ d ih =>
    intro j k hd hj hk
    obtain ⟨k, rfl⟩ : ∃ m, k = m + 1 := ⟨k - 1, by omega⟩
    simp only [spec_validFields.l0]
    have hj' : j < l.length := by omega
    have hbj := hb _ (List.getElem_mem hj')
    rw [if_pos (by omega), if_pos (by omega), rdF_nat l j hj', w64s (by omega), ih (j + 1) k (by omega) (by omega) (by omega), List.drop_eq_getElem_cons hj', List.all_cons]
    have e : spec_validField.f k (l[j]).f0 (l[j]).f1 = some (okF l[j]) := by
      unfold spec_validField.f okF
      rw [inRange_some, bsome, validBytes16 _ (by omega) k (by omega)]
      cases h : (decide (0 ≤ (l[j]).f0) && decide ((l[j]).f0 ≤ 300)) <;> simp
    rw [e, bsome]
    cases okF l[j] <;> simp

theorem validFields_some (l : List Fd) (hn : l.length ≤ 1000000) (hb : ∀ f ∈ l, f.f1.length ≤ 1000000) (k : Nat) (hk : 3000000 ≤ k) : spec_validFields.f k l = some (okFs l) := by
  have := validFields_l0 l hn hb l.length 0 k (by omega) (by omega) (by omega)
  unfold spec_validFields.f okFs
  rw [Bool.and_comm]
  simpa using this

theorem okF_of {f : Fd} (h : okF f = true) : 0 ≤ f.f0 ∧ f.f0 ≤ 300 ∧ f.f1.length ≤ 16 ∧ f.f1.all inB = true := by
  simp only [okF, okB, Bool.and_eq_true, decide_eq_true_eq] at h
  exact ⟨h.1.1, h.1.2, h.2.1, h.2.2⟩

theorem fenc_le {f : Fd} (h : okF f = true) : (fenc f).length ≤ 19 := by
  obtain ⟨h0, h1, h2, _⟩ := okF_of h
  unfold fenc
  have a := grp_length_le 1 f.f0.toNat (by omega)
  rw [grp_small (n := f.f1.length) (by omega)]
  simp; omega

theorem pack_le : ∀ l : List Fd, l.all okF = true → (pack l).length ≤ 19 * l.length := by
  intro l
  induction l with
  | nil => intro _; simp [pack]
  | cons f l ih =>
    intro h
    simp only [List.all_cons, Bool.and_eq_true] at h
    rw [pack_cons, List.length_append, List.length_cons]
    have := fenc_le h.1; have := ih h.2; omega

theorem implPacked_l0 (l : List Fd) (hn : l.length ≤ 1000) (hok : l.all okF = true) : ∀ (d j k : Nat) (acc : List Int), l.length - j = d → j ≤ l.length → d + 20 ≤ k → acc.length + 19 * d ≤ 1000000 → impl_packed.l0 k acc l (l.length : Int) (j : Int) = some (acc ++ pack (l.drop j)) := by
  intro d
  induction d with
  | zero =>
    intro j k acc hd hj hk ha
    obtain ⟨k, rfl⟩ : ∃ m, k = m + 1 := ⟨k - 1, by omega⟩
    simp only [impl_packed.l0]
    rw [if_neg (by omega), List.drop_eq_nil_of_le (by omega)]
    simp [pack]
  | succ d ih =>
    intro j k acc hd hj hk ha
    obtain ⟨k, rfl⟩ : ∃ m, k = m + 1 := ⟨k - 1, by omega⟩
    have hj' : j < l.length := by omega
    have hf := List.all_eq_true.1 hok _ (List.getElem_mem hj')
    obtain ⟨h0, h1, h2, _⟩ := okF_of hf
    have hfe := fenc_le hf
    simp only [impl_packed.l0]
    rw [if_pos (by omega), if_pos (by omega), if_pos (by omega), rdF_nat l j hj', show (l[j]).f0 = (((l[j]).f0.toNat : Nat) : Int) by omega, implGroups_some _ (by omega) k (by omega)]
    unfold fenc at hfe
    simp only [List.length_append] at hfe
    simp only [bsome]
    rw [if_pos (by omega)]
    rw [implGroups_some _ (by omega) k (by omega)]
    simp only [bsome]
    rw [if_pos (by simp; omega)]
    rw [if_pos (by simp; omega), w64s (by omega), ih (j + 1) k _ (by omega) (by omega) (by omega) (by simp; omega), List.drop_eq_getElem_cons hj', pack_cons]
    unfold fenc
    simp

theorem implPacked_some (l : List Fd) (hn : l.length ≤ 1000) (hok : l.all okF = true) (k : Nat) (hk : 2000 ≤ k) : impl_packed.f k l = some (pack l) := by
  have := implPacked_l0 l hn hok l.length 0 k [] (by omega) (by omega) (by omega) (by simp; omega)
  unfold impl_packed.f
  simpa using this

theorem implPack_some (l : List Fd) (k : Nat) (hk : 2000 ≤ k) : impl_PackFields.f k l = some (packOf l) := by
  unfold impl_PackFields.f packOf
  rw [fieldsOk_some, bsome]
  split
  · rename_i h
    have h' := h
    simp only [okFs, Bool.and_eq_true, decide_eq_true_eq] at h'
    rw [implPacked_some l (by omega) h'.2 k hk]
    rfl
  · rfl

theorem specPacked_l0 (l : List Fd) (hn : l.length ≤ 1000) (hok : l.all okF = true) : ∀ (d j k : Nat) (acc : List Int), l.length - j = d → j ≤ l.length → d + 20 ≤ k → acc.length + 19 * d ≤ 1000000 → spec_packFields.l0 k l acc (j : Int) = some (acc ++ pack (l.drop j)) := by
  intro d
  induction d with
  | zero =>
    intro j k acc hd hj hk ha
    obtain ⟨k, rfl⟩ : ∃ m, k = m + 1 := ⟨k - 1, by omega⟩
    simp only [spec_packFields.l0]
    rw [if_neg (by omega), List.drop_eq_nil_of_le (by omega)]
    simp [pack]
  | succ d ih =>
    intro j k acc hd hj hk ha
    obtain ⟨k, rfl⟩ : ∃ m, k = m + 1 := ⟨k - 1, by omega⟩
    have hj' : j < l.length := by omega
    have hf := List.all_eq_true.1 hok _ (List.getElem_mem hj')
    obtain ⟨h0, h1, h2, _⟩ := okF_of hf
    have hfe := fenc_le hf
    simp only [spec_packFields.l0]
    rw [if_pos (by omega), if_pos (by omega), rdF_nat l j hj', show (l[j]).f0 = (((l[j]).f0.toNat : Nat) : Int) by omega, specGroup_some _ (by omega) k (by omega)]
    unfold fenc at hfe
    simp only [List.length_append] at hfe
    simp only [bsome]
    rw [if_pos (by omega)]
    rw [specGroup_some _ (by omega) k (by omega)]
    simp only [bsome]
    rw [if_pos (by simp; omega)]
    rw [if_pos (by simp; omega), w64s (by omega), ih (j + 1) k _ (by omega) (by omega) (by omega) (by simp; omega), List.drop_eq_getElem_cons hj', pack_cons]
    unfold fenc
    simp

theorem specPack_some (l : List Fd) (hn : l.length ≤ 1000000) (hb : ∀ f ∈ l, f.f1.length ≤ 1000000) (k : Nat) (hk : 3000000 ≤ k) : spec_PackFields.f k l = some (packOf l) := by
  unfold spec_PackFields.f packOf
  rw [validFields_some l hn hb k hk, bsome]
  split
  · rename_i h
    have h' := h
    simp only [okFs, Bool.and_eq_true, decide_eq_true_eq] at h'
    have := specPacked_l0 l (by omega) h'.2 l.length 0 k [] (by omega) (by omega) (by omega) (by simp; omega)
    unfold spec_packFields.f
    have e : spec_packFields.l0 k l [] 0 = some (pack l) := by simpa using this
    rw [e]
    rfl
  · rfl

theorem fd_ext {a b : Fd} (h0 : a.f0 = b.f0) (h1 : a.f1 = b.f1) : a = b := by
  cases a; cases b; simp at h0 h1; rw [h0, h1]

/-- A list of fields held against itself. -/
theorem equalFields_l0 (a : List Fd) (hn : a.length ≤ 1000000) (hb : ∀ f ∈ a, f.f1.length ≤ 1000000) : ∀ (d j k : Nat), a.length - j = d → j ≤ a.length → d + 1000010 ≤ k → laws_equalFields.l0 k a a (j : Int) = some true := by
  intro d
  induction d with
  | zero =>
    intro j k hd hj hk
    obtain ⟨k, rfl⟩ : ∃ m, k = m + 1 := ⟨k - 1, by omega⟩
    simp only [laws_equalFields.l0]
    rw [if_neg (by omega)]
  | succ d ih =>
    intro j k hd hj hk
    obtain ⟨k, rfl⟩ : ∃ m, k = m + 1 := ⟨k - 1, by omega⟩
    have hj' : j < a.length := by omega
    have := hb _ (List.getElem_mem hj')
    simp only [laws_equalFields.l0]
    rw [if_pos (by omega), if_pos (by omega), if_pos (by omega), if_pos trivial, rdF_nat a j hj', equalInts_some _ _ (by omega) k (by omega), bsome, if_pos (by simp), w64s (by omega), ih (j + 1) k (by omega) (by omega) (by omega)]

theorem equalFields_self (a : List Fd) (hn : a.length ≤ 1000000) (hb : ∀ f ∈ a, f.f1.length ≤ 1000000) (k : Nat) (hk : 3000000 ≤ k) : laws_equalFields.f k a a = some true := by
  unfold laws_equalFields.f
  rw [if_pos rfl]
  have := equalFields_l0 a hn hb a.length 0 k (by omega) (by omega) (by omega)
  simpa using this

/-- How the program reads fields. -/
def idecF : Nat → List Fd → List Int → Option (List Fd)
  | 0, _, _ => none
  | _ + 1, acc, [] => some acc
  | f + 1, acc, b :: r =>
    let l := b :: r
    let t := num 0 0 l
    let s := num 0 0 (l.drop t.2.toNat)
    if t.2 = 0 ∨ s.2 = 0 ∨ (l.length : Int) < t.2 + s.2 + s.1 ∨ acc.length = 5 then none
    else idecF f (acc ++ [⟨t.1, (l.drop (t.2 + s.2).toNat).take s.1.toNat⟩]) (l.drop (t.2 + s.2 + s.1).toNat)

def fOf (l : List Int) : Option (List Fd) → List Fd × Bool
  | none => ([], false)
  | some out => if okFs out = true ∧ pack out = l then (out, true) else ([], false)

/-- What is told of a number read: it is small, and lies in the bytes. -/
theorem num_range (l : List Int) (hb : l.all inB = true) : 0 ≤ (num 0 0 l).1 ∧ (num 0 0 l).1 ≤ 1000000 ∧ 0 ≤ (num 0 0 l).2 ∧ (num 0 0 l).2 ≤ 4 ∧ (num 0 0 l).2 ≤ l.length := by
  have key : ∀ (l : List Int) (i x : Nat), (num x i l).2 = 0 → num x i l = (0, 0) := by
    intro l
    induction l with
    | nil => intro i x _; rfl
    | cons b r ih =>
      intro i x h
      simp only [num] at h ⊢
      split
      · rename_i h1; rw [if_pos h1] at h
        split
        · rename_i h2; rw [if_pos h2] at h
          split
          · rfl
          · rename_i h3; rw [if_neg h3] at h; simp only at h; omega
        · rename_i h2; rw [if_neg h2] at h; exact ih _ _ h
      · rfl
  by_cases h0 : (num 0 0 l).2 = 0
  · have := key l 0 0 h0
    rw [this]; simp
  · obtain ⟨n, a1, a2, a3, a4, a5, _⟩ := num_back l 0 0 _ _ hb rfl h0
    have : (grp n).length ≤ l.length := by rw [a4]; simp
    refine ⟨by omega, a2, by omega, a5, by omega⟩

theorem all_drop {l : List Int} (hb : l.all inB = true) (n : Nat) : (l.drop n).all inB = true := by
  rw [List.all_eq_true] at hb ⊢; intro x hx; exact hb x (List.mem_of_mem_drop hx)

theorem implUnpack_l0 (l : List Int) (hl : l.length ≤ 10000) (hb : l.all inB = true) : ∀ (d j k : Nat) (acc : List Fd), l.length - j ≤ d → j ≤ l.length → d + 30001 ≤ k → acc.length ≤ 5 →
    impl_UnpackFields.l0 k l acc (j : Int) = some (fOf l (idecF (d + 1) acc (l.drop j))) := by
  have fin : ∀ (k : Nat) (acc : List Fd), 30000 ≤ k → acc.length ≤ 5 → ((impl_fieldsOk.f acc).bind fun t515 => (if t515 = true then ((impl_packed.f k acc).bind fun t516 => ((slices_Equal_int_int.f k t516 l).bind fun t519 => (if t519 = true then (some (acc, true)) else (some (([] : List Fd), false))))) else (some (([] : List Fd), false)))) = some (fOf l (some acc)) := by
    intro k acc hk ha
    rw [fieldsOk_some]
    simp only [bsome, fOf]
    cases h : okFs acc with
    | false => simp
    | true =>
      have h' := h
      simp only [okFs, Bool.and_eq_true, decide_eq_true_eq] at h'
      have := pack_le acc h'.2
      rw [if_pos rfl, implPacked_some acc (by omega) h'.2 k (by omega), bsome, Equal_some _ _ (by omega) k (by omega), bsome]
      by_cases e : pack acc = l <;> simp [e]
  intro d
  induction d with
  | zero =>
    intro j k acc hd hj hk ha
    obtain ⟨k, rfl⟩ : ∃ m, k = m + 1 := ⟨k - 1, by omega⟩
    simp only [impl_UnpackFields.l0]
    rw [if_neg (by omega), List.drop_eq_nil_of_le (by omega)]
    exact fin k acc (by omega) ha
  | succ d ih =>
    intro j k acc hd hj hk ha
    obtain ⟨k, rfl⟩ : ∃ m, k = m + 1 := ⟨k - 1, by omega⟩
    simp only [impl_UnpackFields.l0]
    by_cases h1 : j < l.length
    · have hd1 := all_drop hb j
      have r1 := num_range (l.drop j) hd1
      have hld : (l.drop j).length = l.length - j := List.length_drop
      rw [if_pos (by omega), if_pos (by omega), if_pos (by omega), Int.toNat_natCast, implNum_some _ (by omega) hd1 k (by omega)]
      have hcons : ∃ b r, l.drop j = b :: r := ⟨_, _, List.drop_eq_getElem_cons h1⟩
      obtain ⟨b, r, hbr⟩ := hcons
      have hid : idecF (d + 1 + 1) acc (l.drop j) = (if (num 0 0 (l.drop j)).2 = 0 ∨ (num 0 0 ((l.drop j).drop (num 0 0 (l.drop j)).2.toNat)).2 = 0 ∨ ((l.drop j).length : Int) < (num 0 0 (l.drop j)).2 + (num 0 0 ((l.drop j).drop (num 0 0 (l.drop j)).2.toNat)).2 + (num 0 0 ((l.drop j).drop (num 0 0 (l.drop j)).2.toNat)).1 ∨ acc.length = 5 then none else idecF (d + 1) (acc ++ [⟨(num 0 0 (l.drop j)).1, ((l.drop j).drop ((num 0 0 (l.drop j)).2 + (num 0 0 ((l.drop j).drop (num 0 0 (l.drop j)).2.toNat)).2).toNat).take (num 0 0 ((l.drop j).drop (num 0 0 (l.drop j)).2.toNat)).1.toNat⟩]) ((l.drop j).drop ((num 0 0 (l.drop j)).2 + (num 0 0 ((l.drop j).drop (num 0 0 (l.drop j)).2.toNat)).2 + (num 0 0 ((l.drop j).drop (num 0 0 (l.drop j)).2.toNat)).1).toNat)) := by
        rw [hbr]; rfl
      rw [hid]
      generalize hu : num 0 0 (l.drop j) = u at *
      simp only [bsome]
      rw [w64 (n := (j : Int) + u.2) (by omega) (by omega), if_pos (by omega), if_pos (by omega)]
      have e1 : (l.drop j).drop u.2.toNat = l.drop ((j : Int) + u.2).toNat := by rw [List.drop_drop, show j + u.2.toNat = ((j : Int) + u.2).toNat by omega]
      have hd2 := all_drop hb ((j : Int) + u.2).toNat
      have r2 := num_range _ hd2
      have hld2 : (l.drop ((j : Int) + u.2).toNat).length = l.length - ((j : Int) + u.2).toNat := List.length_drop
      rw [implNum_some _ (by omega) hd2 k (by omega), e1]
      generalize hv : num 0 0 (l.drop ((j : Int) + u.2).toNat) = v at *
      simp only [bsome]
      rw [hld]
      by_cases c1 : u.2 = 0
      · rw [if_pos c1, if_pos (Or.inl c1)]; rfl
      · rw [if_neg c1]
        by_cases c2 : v.2 = 0
        · rw [if_pos c2, if_pos (Or.inr (Or.inl c2))]; rfl
        · rw [if_neg c2, w64 (n := u.2 + v.2) (by omega) (by omega), w64 (n := (j : Int) + (u.2 + v.2)) (by omega) (by omega), w64 (n := (j : Int) + (u.2 + v.2) + v.1) (by omega) (by omega)]
          by_cases c3 : (j : Int) + (u.2 + v.2) + v.1 > (l.length : Int)
          · rw [if_pos c3, if_pos (Or.inr (Or.inr (Or.inl (by omega))))]; rfl
          · rw [if_neg c3]
            by_cases c4 : (acc.length : Int) = 5
            · rw [if_pos c4, if_pos (Or.inr (Or.inr (Or.inr (by omega))))]; rfl
            · rw [if_neg c4, if_pos (by omega), if_pos (by omega), if_pos (by omega), if_neg (by omega)]
              have e2 : ((l.take ((j : Int) + (u.2 + v.2) + v.1).toNat).drop ((j : Int) + (u.2 + v.2)).toNat) = ((l.drop j).drop (u.2 + v.2).toNat).take v.1.toNat := by
                rw [List.drop_take, List.drop_drop, show j + (u.2 + v.2).toNat = ((j : Int) + (u.2 + v.2)).toNat by omega, show ((j : Int) + (u.2 + v.2) + v.1).toNat - ((j : Int) + (u.2 + v.2)).toNat = v.1.toNat by omega]
              have e3 : (l.drop j).drop (u.2 + v.2 + v.1).toNat = l.drop ((j : Int) + (u.2 + v.2) + v.1).toNat := by rw [List.drop_drop, show j + (u.2 + v.2 + v.1).toNat = ((j : Int) + (u.2 + v.2) + v.1).toNat by omega]
              have e4 : slices_Clone_int_int.f (((l.drop j).drop (u.2 + v.2).toNat).take v.1.toNat) = some (((l.drop j).drop (u.2 + v.2).toNat).take v.1.toNat) := by
                unfold slices_Clone_int_int.f
                simp only [bsome]
                rw [if_pos (by simp; omega)]; simp
              rw [e2, e3, e4]
              simp only [bsome]
              have g := ih ((j : Int) + (u.2 + v.2) + v.1).toNat k
              rw [show ((((j : Int) + (u.2 + v.2) + v.1).toNat : Nat) : Int) = (j : Int) + (u.2 + v.2) + v.1 by omega] at g
              rw [if_pos (by omega), g _ (by omega) (by omega) (by omega) (by simp; omega)]
    · rw [if_neg (by omega), List.drop_eq_nil_of_le (by omega)]
      exact fin k acc (by omega) ha

def implUnpackOf (l : List Int) : List Fd × Bool := if l.length ≤ 120 ∧ l.all inB = true then fOf l (idecF (l.length + 1) [] l) else ([], false)

theorem implUnpack_some (l : List Int) (hl : l.length ≤ 10000) (k : Nat) (hk : 50000 ≤ k) : impl_UnpackFields.f k l = some (implUnpackOf l) := by
  unfold impl_UnpackFields.f implUnpackOf
  obtain ⟨k, rfl⟩ : ∃ m, k = m + 1 := ⟨k - 1, by omega⟩
  by_cases h1 : l.length ≤ 120
  · rw [if_neg (by omega), bytesAlone_some l (by omega), bsome]
    cases h2 : l.all inB with
    | false => simp [impl_UnpackFields.j0]
    | true =>
      rw [if_pos ⟨h1, rfl⟩]
      simp only [impl_UnpackFields.j0, Bool.not_true, Bool.false_eq_true, if_false]
      have := implUnpack_l0 l hl h2 l.length 0 k [] (by omega) (by omega) (by omega) (by simp)
      simpa using this
  · rw [if_pos (by omega), if_neg (fun e => h1 e.1)]
    simp [impl_UnpackFields.j0]

/-- How the reference reads fields. -/
def sdecF : Nat → List Fd → List Int → Option (List Fd)
  | 0, _, _ => none
  | _ + 1, acc, [] => some acc
  | f + 1, acc, b :: r =>
    let l := b :: r
    let t := num 0 0 l
    let s := num 0 0 (l.drop t.2.toNat)
    if t.2 = 0 ∨ 300 < t.1 ∨ s.2 = 0 ∨ (l.length : Int) - t.2 - s.2 < s.1 ∨ 16 < s.1 then none
    else sdecF f (acc ++ [⟨t.1, (l.drop (t.2 + s.2).toNat).take s.1.toNat⟩]) (l.drop (t.2 + s.2 + s.1).toNat)

def sfOf : Option (List Fd) → List Fd × Bool
  | none => ([], false)
  | some out => (out, decide (out.length ≤ 5))

theorem specUnpack_l0 (l : List Int) (hl : l.length ≤ 10000) (hb : l.all inB = true) : ∀ (d j k : Nat) (acc : List Fd), l.length - j ≤ d → j ≤ l.length → 2 * d + 100 ≤ k → acc.length ≤ j →
    spec_unpack.l0 k l acc (j : Int) = some (sfOf (sdecF (d + 1) acc (l.drop j))) := by
  have fin : ∀ (acc : List Fd), some (acc, decide ((acc.length : Int) ≤ 5)) = some (sfOf (some acc)) := by
    intro acc; simp only [sfOf]; congr 2; simp only [decide_eq_decide]; omega
  intro d
  induction d with
  | zero =>
    intro j k acc hd hj hk ha
    obtain ⟨k, rfl⟩ : ∃ m, k = m + 1 := ⟨k - 1, by omega⟩
    simp only [spec_unpack.l0]
    rw [if_neg (by omega), List.drop_eq_nil_of_le (by omega)]
    exact fin acc
  | succ d ih =>
    intro j k acc hd hj hk ha
    obtain ⟨k, rfl⟩ : ∃ m, k = m + 2 := ⟨k - 2, by omega⟩
    simp only [spec_unpack.l0]
    by_cases h1 : j < l.length
    · have hd1 := all_drop hb j
      have r1 := num_range (l.drop j) hd1
      have hld : (l.drop j).length = l.length - j := List.length_drop
      rw [if_pos (by omega), if_pos (by omega), if_pos (by omega), Int.toNat_natCast, specNum_some _ (by omega) hd1 (k + 1) (by omega)]
      have hcons : ∃ b r, l.drop j = b :: r := ⟨_, _, List.drop_eq_getElem_cons h1⟩
      obtain ⟨b, r, hbr⟩ := hcons
      have hid : sdecF (d + 1 + 1) acc (l.drop j) = (if (num 0 0 (l.drop j)).2 = 0 ∨ 300 < (num 0 0 (l.drop j)).1 ∨ (num 0 0 ((l.drop j).drop (num 0 0 (l.drop j)).2.toNat)).2 = 0 ∨ ((l.drop j).length : Int) - (num 0 0 (l.drop j)).2 - (num 0 0 ((l.drop j).drop (num 0 0 (l.drop j)).2.toNat)).2 < (num 0 0 ((l.drop j).drop (num 0 0 (l.drop j)).2.toNat)).1 ∨ 16 < (num 0 0 ((l.drop j).drop (num 0 0 (l.drop j)).2.toNat)).1 then none else sdecF (d + 1) (acc ++ [⟨(num 0 0 (l.drop j)).1, ((l.drop j).drop ((num 0 0 (l.drop j)).2 + (num 0 0 ((l.drop j).drop (num 0 0 (l.drop j)).2.toNat)).2).toNat).take (num 0 0 ((l.drop j).drop (num 0 0 (l.drop j)).2.toNat)).1.toNat⟩]) ((l.drop j).drop ((num 0 0 (l.drop j)).2 + (num 0 0 ((l.drop j).drop (num 0 0 (l.drop j)).2.toNat)).2 + (num 0 0 ((l.drop j).drop (num 0 0 (l.drop j)).2.toNat)).1).toNat)) := by
        rw [hbr]; rfl
      rw [hid]
      generalize hu : num 0 0 (l.drop j) = u at *
      simp only [bsome]
      by_cases c1 : u.2 = 0
      · rw [if_pos c1, if_pos (Or.inl c1)]
        simp only [spec_unpack.j1, if_true]; rfl
      · rw [if_neg c1]
        by_cases c2 : u.1 > 300
        · rw [decide_eq_true c2, if_pos (Or.inr (Or.inl c2))]
          simp only [spec_unpack.j1, if_true]; rfl
        · rw [decide_eq_false c2]
          simp only [spec_unpack.j1, Bool.false_eq_true, if_false]
          rw [w64 (n := (j : Int) + u.2) (by omega) (by omega), if_pos (by omega), if_pos (by omega)]
          have e1 : (l.drop j).drop u.2.toNat = l.drop ((j : Int) + u.2).toNat := by rw [List.drop_drop, show j + u.2.toNat = ((j : Int) + u.2).toNat by omega]
          have hd2 := all_drop hb ((j : Int) + u.2).toNat
          have r2 := num_range _ hd2
          have hld2 : (l.drop ((j : Int) + u.2).toNat).length = l.length - ((j : Int) + u.2).toNat := List.length_drop
          rw [specNum_some _ (by omega) hd2 k (by omega), e1]
          generalize hv : num 0 0 (l.drop ((j : Int) + u.2).toNat) = v at *
          simp only [bsome]
          rw [hld]
          by_cases c3 : v.2 = 0
          · rw [if_pos c3, if_pos (Or.inr (Or.inr (Or.inl c3)))]; rfl
          · rw [if_neg c3, w64 (n := (l.length : Int) - j) (by omega) (by omega), w64 (n := (l.length : Int) - j - u.2) (by omega) (by omega), w64 (n := (l.length : Int) - j - u.2 - v.2) (by omega) (by omega)]
            by_cases c4 : v.1 > (l.length : Int) - j - u.2 - v.2
            · rw [if_pos c4, if_pos (Or.inr (Or.inr (Or.inr (Or.inl (by omega)))))]; rfl
            · rw [if_neg c4]
              by_cases c5 : v.1 > 16
              · rw [if_pos c5, if_pos (Or.inr (Or.inr (Or.inr (Or.inr c5))))]; rfl
              · rw [if_neg c5, w64 (n := (j : Int) + u.2 + v.2) (by omega) (by omega), w64 (n := (j : Int) + u.2 + v.2 + v.1) (by omega) (by omega), if_pos (by omega), if_pos (by omega), if_pos (by omega)]
                have e2 : ((l.take ((j : Int) + u.2 + v.2 + v.1).toNat).drop ((j : Int) + u.2 + v.2).toNat) = ((l.drop j).drop (u.2 + v.2).toNat).take v.1.toNat := by
                  rw [List.drop_take, List.drop_drop, show j + (u.2 + v.2).toNat = ((j : Int) + u.2 + v.2).toNat by omega, show ((j : Int) + u.2 + v.2 + v.1).toNat - ((j : Int) + u.2 + v.2).toNat = v.1.toNat by omega]
                have e3 : (l.drop j).drop (u.2 + v.2 + v.1).toNat = l.drop ((j : Int) + u.2 + v.2 + v.1).toNat := by rw [List.drop_drop, show j + (u.2 + v.2 + v.1).toNat = ((j : Int) + u.2 + v.2 + v.1).toNat by omega]
                rw [e2, e3]
                have g := ih ((j : Int) + u.2 + v.2 + v.1).toNat k
                rw [show ((((j : Int) + u.2 + v.2 + v.1).toNat : Nat) : Int) = (j : Int) + u.2 + v.2 + v.1 by omega] at g
                rw [if_pos (by simp; omega), if_pos (by omega), if_neg (by omega), List.nil_append, g _ (by omega) (by omega) (by omega) (by simp; omega)]
    · rw [if_neg (by omega), List.drop_eq_nil_of_le (by omega)]
      exact fin acc

def sFin (r : List Fd × Bool) : List Fd × Bool := match r.2 with
  | true => (r.1, true)
  | false => ([], false)
def specUnpackOf (l : List Int) : List Fd × Bool := if l.all inB = true ∧ l.length ≤ 120 then sFin (sfOf (sdecF (l.length + 1) [] l)) else ([], false)

theorem specUnpack_some (l : List Int) (hl : l.length ≤ 10000) (k : Nat) (hk : 50000 ≤ k) : spec_UnpackFields.f k l = some (specUnpackOf l) := by
  unfold spec_UnpackFields.f specUnpackOf
  rw [validBytes_some l 120 (by omega) k (by omega), bsome]
  by_cases h1 : l.all inB = true ∧ l.length ≤ 120
  · have : (l.all inB && decide ((l.length : Int) ≤ 120)) = true := by rw [h1.1, Bool.true_and, decide_eq_true_eq]; omega
    rw [this, if_pos rfl, if_pos h1]
    have := specUnpack_l0 l hl h1.1 l.length 0 k [] (by omega) (by omega) (by omega) (by simp)
    unfold spec_unpack.f
    have e : spec_unpack.l0 k l [] 0 = some (sfOf (sdecF (l.length + 1) [] l)) := by simpa using this
    rw [e]
    simp only [bsome]
    generalize sfOf (sdecF (l.length + 1) [] l) = r
    unfold sFin
    cases r.2 <;> rfl
  · have : (l.all inB && decide ((l.length : Int) ≤ 120)) = false := by
      rw [Bool.and_eq_false_iff]
      by_cases h2 : l.all inB = true
      · right; have : ¬ l.length ≤ 120 := fun e => h1 ⟨h2, e⟩; simp; omega
      · left; simpa using h2
    rw [this, if_neg (by simp), if_neg h1]

theorem num_front (v : Nat) (hv : v ≤ 1000000) (r : List Int) : num 0 0 (grp v ++ r) = ((v : Int), ((grp v).length : Int)) := by
  have := num_grp 3 0 0 v r (by omega) (by omega) (by omega) (by omega)
  simpa using this

theorem grp_pos (v : Nat) : 1 ≤ (grp v).length := by
  have := grp_length_ge 0 v
  by_cases h : v < 128
  · rw [grp_small h]; simp
  · rw [grp_big h]; simp

theorem fenc_cons (f : Fd) (rest : List Int) : ∃ b r, fenc f ++ rest = b :: r := by
  have := grp_pos f.f0.toNat
  cases h : fenc f ++ rest with
  | nil =>
    have := congrArg List.length h
    unfold fenc at this
    simp only [List.length_append, List.length_nil] at this
    omega
  | cons b r => exact ⟨b, r, rfl⟩

theorem fenc_reads {f : Fd} (h : okF f = true) (rest : List Int) :
    num 0 0 (fenc f ++ rest) = (f.f0, ((grp f.f0.toNat).length : Int)) ∧
    num 0 0 ((fenc f ++ rest).drop (grp f.f0.toNat).length) = ((f.f1.length : Int), ((grp f.f1.length).length : Int)) ∧
    ((fenc f ++ rest).drop ((grp f.f0.toNat).length + (grp f.f1.length).length)).take f.f1.length = f.f1 ∧
    (fenc f ++ rest).drop ((grp f.f0.toNat).length + (grp f.f1.length).length + f.f1.length) = rest := by
  obtain ⟨h0, h1, h2, _⟩ := okF_of h
  unfold fenc
  rw [List.append_assoc, List.append_assoc]
  refine ⟨?_, ?_, ?_, ?_⟩
  · rw [num_front _ (by omega)]; congr 1; omega
  · rw [List.drop_left, num_front _ (by omega)]
  · rw [← List.drop_drop, List.drop_left, List.drop_left, List.take_left]
  · rw [← List.drop_drop, ← List.drop_drop, List.drop_left, List.drop_left, List.drop_left]

theorem idecF_pack : ∀ (fs acc : List Fd) (f : Nat), fs.all okF = true → acc.length + fs.length ≤ 5 → fs.length + 1 ≤ f → idecF f acc (pack fs) = some (acc ++ fs) := by
  intro fs
  induction fs with
  | nil =>
    intro acc f _ _ hf
    obtain ⟨f, rfl⟩ : ∃ m, f = m + 1 := ⟨f - 1, by omega⟩
    simp [pack, idecF]
  | cons x fs ih =>
    intro acc f hok hl hf
    simp only [List.all_cons, Bool.and_eq_true] at hok
    simp only [List.length_cons] at hl hf
    obtain ⟨f, rfl⟩ : ∃ m, f = m + 1 := ⟨f - 1, by omega⟩
    rw [pack_cons]
    obtain ⟨r1, r2, r3, r4⟩ := fenc_reads hok.1 (pack fs)
    have hlen : (fenc x ++ pack fs).length = (grp x.f0.toNat).length + (grp x.f1.length).length + x.f1.length + (pack fs).length := by unfold fenc; simp only [List.length_append]
    have p1 := grp_pos x.f0.toNat
    have p2 := grp_pos x.f1.length
    obtain ⟨b, r, hbr⟩ := fenc_cons x (pack fs)
    rw [hbr] at r1 r2 r3 r4 hlen ⊢
    simp only [idecF]
    rw [r1]
    simp only [Int.toNat_natCast]
    rw [r2]
    simp only
    rw [if_neg (by omega), show (((grp x.f0.toNat).length : Int) + ((grp x.f1.length).length : Int)).toNat = (grp x.f0.toNat).length + (grp x.f1.length).length by omega, Int.toNat_natCast, r3,
      show (((grp x.f0.toNat).length : Int) + ((grp x.f1.length).length : Int) + (x.f1.length : Int)).toNat = (grp x.f0.toNat).length + (grp x.f1.length).length + x.f1.length by omega, r4, ih _ f hok.2 (by simp; omega) (by omega)]
    simp

theorem sdecF_pack : ∀ (fs acc : List Fd) (f : Nat), fs.all okF = true → fs.length + 1 ≤ f → sdecF f acc (pack fs) = some (acc ++ fs) := by
  intro fs
  induction fs with
  | nil =>
    intro acc f _ hf
    obtain ⟨f, rfl⟩ : ∃ m, f = m + 1 := ⟨f - 1, by omega⟩
    simp [pack, sdecF]
  | cons x fs ih =>
    intro acc f hok hf
    simp only [List.all_cons, Bool.and_eq_true] at hok
    simp only [List.length_cons] at hf
    obtain ⟨f, rfl⟩ : ∃ m, f = m + 1 := ⟨f - 1, by omega⟩
    rw [pack_cons]
    obtain ⟨r1, r2, r3, r4⟩ := fenc_reads hok.1 (pack fs)
    have hlen : (fenc x ++ pack fs).length = (grp x.f0.toNat).length + (grp x.f1.length).length + x.f1.length + (pack fs).length := by unfold fenc; simp only [List.length_append]
    obtain ⟨h0, h1, h2, _⟩ := okF_of hok.1
    have p1 := grp_pos x.f0.toNat
    have p2 := grp_pos x.f1.length
    obtain ⟨b, r, hbr⟩ := fenc_cons x (pack fs)
    rw [hbr] at r1 r2 r3 r4 hlen ⊢
    simp only [sdecF]
    rw [r1]
    simp only [Int.toNat_natCast]
    rw [r2]
    simp only
    rw [if_neg (by omega), show (((grp x.f0.toNat).length : Int) + ((grp x.f1.length).length : Int)).toNat = (grp x.f0.toNat).length + (grp x.f1.length).length by omega, Int.toNat_natCast, r3,
      show (((grp x.f0.toNat).length : Int) + ((grp x.f1.length).length : Int) + (x.f1.length : Int)).toNat = (grp x.f0.toNat).length + (grp x.f1.length).length + x.f1.length by omega, r4, ih _ f hok.2 (by omega)]
    simp

theorem sdecF_back : ∀ (f : Nat) (l : List Int) (acc out : List Fd), l.all inB = true → sdecF f acc l = some out → ∃ fs, out = acc ++ fs ∧ l = pack fs ∧ fs.all okF = true := by
  intro f
  induction f with
  | zero => intro l acc out _ h; simp [sdecF] at h
  | succ f ih =>
    intro l acc out hb h
    cases l with
    | nil => simp [sdecF] at h; exact ⟨[], by simp [h], by simp [pack], by simp⟩
    | cons b r =>
      simp only [sdecF] at h
      generalize hl : b :: r = l at h hb
      split at h
      · cases h
      · rename_i hc
        have r1 := num_range l hb
        obtain ⟨n, a1, a2, a3, a4, a5, _⟩ := num_back l 0 0 _ _ hb rfl (by omega)
        have hb2 := all_drop hb (num 0 0 l).2.toNat
        have r2 := num_range _ hb2
        obtain ⟨m, c1, c2, c3, c4, c5, _⟩ := num_back _ 0 0 _ _ hb2 rfl (by omega)
        simp only [Nat.pow_zero, Nat.mul_one, Nat.zero_add] at a1 c1
        have en : (num 0 0 l).2.toNat = (grp n).length := by omega
        rw [en] at h hc hb2 r2 c1 c2 c3 c4 c5
        generalize hs : num 0 0 (l.drop (grp n).length) = s at *
        have e1 : ((num 0 0 l).2 + s.2).toNat = (grp n).length + (grp m).length := by omega
        have e2 : ((num 0 0 l).2 + s.2 + s.1).toNat = (grp n).length + (grp m).length + m := by omega
        have e3 : s.1.toNat = m := by omega
        rw [e1, e2, e3] at h
        obtain ⟨fs, b1, b2, b3⟩ := ih _ _ _ (all_drop hb _) h
        have hdl : (l.drop ((grp n).length + (grp m).length)).length = l.length - ((grp n).length + (grp m).length) := List.length_drop
        have hlen : ((l.drop ((grp n).length + (grp m).length)).take m).length = m := by rw [List.length_take, hdl]; omega
        refine ⟨⟨(num 0 0 l).1, (l.drop ((grp n).length + (grp m).length)).take m⟩ :: fs, by rw [b1]; simp, ?_, ?_⟩
        · rw [pack_cons, ← b2]
          unfold fenc
          simp only [hlen, a1, Int.toNat_natCast]
          conv => lhs; rw [a4]
          rw [List.append_assoc, List.append_assoc]
          congr 1
          conv => lhs; rw [c4]
          congr 1
          rw [List.drop_drop]
          conv => lhs; rw [← List.take_append_drop m (l.drop ((grp n).length + (grp m).length))]
          rw [List.drop_drop]
        · rw [List.all_cons, b3, Bool.and_true]
          have hz := all_drop hb ((grp n).length + (grp m).length)
          simp only [okF, okB, Bool.and_eq_true, decide_eq_true_eq]
          refine ⟨⟨by omega, by omega⟩, by omega, ?_⟩
          rw [List.all_eq_true] at hz ⊢
          intro x hx; exact hz x (List.mem_of_mem_take hx)

theorem inB_grp : ∀ (n v : Nat), v ≤ n → (grp v).all inB = true := by
  intro n
  induction n with
  | zero => intro v h; rw [grp_small (by omega)]; have : v = 0 := by omega
            subst this; decide
  | succ n ih =>
    intro v h
    by_cases h1 : v < 128
    · rw [grp_small h1]; simp [inB]; omega
    · rw [grp_big h1, List.all_cons, ih _ (by omega)]; simp [inB]; omega

theorem inB_pack : ∀ fs : List Fd, fs.all okF = true → (pack fs).all inB = true := by
  intro fs
  induction fs with
  | nil => intro _; rfl
  | cons x fs ih =>
    intro h
    simp only [List.all_cons, Bool.and_eq_true] at h
    obtain ⟨_, _, _, h3⟩ := okF_of h.1
    rw [pack_cons, List.all_append, ih h.2, Bool.and_true]
    unfold fenc
    rw [List.all_append, List.all_append, h3, inB_grp _ _ (Nat.le_refl _), inB_grp _ _ (Nat.le_refl _)]
    rfl

theorem unpack_agree (l : List Int) : implUnpackOf l = specUnpackOf l := by
  by_cases hx : ∃ fs, okFs fs = true ∧ l = pack fs
  · obtain ⟨fs, ho, rfl⟩ := hx
    have ho' := ho
    simp only [okFs, Bool.and_eq_true, decide_eq_true_eq] at ho'
    have hl := pack_le fs ho'.2
    have hlen : fs.length ≤ (pack fs).length := by
      have : ∀ fs : List Fd, fs.length ≤ (pack fs).length := by
        intro fs
        induction fs with
        | nil => simp [pack]
        | cons x fs ih =>
          rw [pack_cons, List.length_append, List.length_cons]
          have := grp_pos x.f0.toNat
          unfold fenc
          simp only [List.length_append]; omega
      exact this fs
    unfold implUnpackOf specUnpackOf
    rw [idecF_pack fs [] _ ho'.2 (by simp; omega) (by omega), sdecF_pack fs [] _ ho'.2 (by omega)]
    rw [if_pos ⟨by omega, inB_pack fs ho'.2⟩, if_pos ⟨inB_pack fs ho'.2, by omega⟩]
    simp only [fOf, sfOf, List.nil_append]
    rw [if_pos ⟨ho, trivial⟩, decide_eq_true ho'.1]
    rfl
  · have h1 : implUnpackOf l = ([], false) := by
      unfold implUnpackOf
      split
      · cases idecF (l.length + 1) [] l with
        | none => rfl
        | some out =>
          simp only [fOf]
          rw [if_neg]
          rintro ⟨a, b⟩
          exact hx ⟨out, a, b.symm⟩
      · rfl
    rw [h1]
    unfold specUnpackOf
    split
    · rename_i h
      cases hs : sdecF (l.length + 1) [] l with
      | none => rfl
      | some out =>
        simp only [sfOf]
        by_cases h5 : out.length ≤ 5
        · exfalso
          obtain ⟨fs, u, v, w⟩ := sdecF_back _ l [] out h.1 hs
          rw [List.nil_append] at u
          subst u
          exact hx ⟨out, by simp only [okFs, Bool.and_eq_true, decide_eq_true_eq]; exact ⟨h5, w⟩, v⟩
        · rw [decide_eq_false h5]; rfl
    · rfl

theorem implUnpackOf_true {l : List Int} (h : (implUnpackOf l).2 = true) : okFs (implUnpackOf l).1 = true ∧ pack (implUnpackOf l).1 = l := by
  unfold implUnpackOf at h ⊢
  split at h
  · rename_i hc
    rw [if_pos hc]
    cases hd : idecF (l.length + 1) [] l with
    | none => rw [hd] at h; cases h
    | some out =>
      rw [hd] at h
      simp only [fOf] at h ⊢
      split at h
      · rename_i h2; rw [if_pos h2]; exact h2
      · cases h
  · cases h

theorem implUnpackOf_small (l : List Int) : (implUnpackOf l).1.length ≤ 5 ∧ ∀ f ∈ (implUnpackOf l).1, f.f1.length ≤ 16 := by
  cases h : (implUnpackOf l).2 with
  | true =>
    have := (implUnpackOf_true h).1
    simp only [okFs, Bool.and_eq_true, decide_eq_true_eq] at this
    exact ⟨this.1, fun f hf => (okF_of (List.all_eq_true.1 this.2 f hf)).2.2.1⟩
  | false =>
    have : (implUnpackOf l).1 = [] := by
      unfold implUnpackOf at h ⊢
      split
      · rename_i hc
        rw [if_pos hc] at h
        cases hd : idecF (l.length + 1) [] l with
        | none => rfl
        | some out =>
          rw [hd] at h
          simp only [fOf] at h ⊢
          split
          · rename_i h2; rw [if_pos h2] at h; cases h
          · rfl
      · rfl
    rw [this]; simp

theorem implUnpackOf_pack {fs : List Fd} (ho : okFs fs = true) : implUnpackOf (pack fs) = (fs, true) := by
  have ho' := ho
  simp only [okFs, Bool.and_eq_true, decide_eq_true_eq] at ho'
  have hl := pack_le fs ho'.2
  have hlen : fs.length ≤ (pack fs).length := by
    have : ∀ fs : List Fd, fs.length ≤ (pack fs).length := by
      intro fs
      induction fs with
      | nil => simp [pack]
      | cons x fs ih =>
        rw [pack_cons, List.length_append, List.length_cons]
        have := grp_pos x.f0.toNat
        unfold fenc
        simp only [List.length_append]; omega
    exact this fs
  unfold implUnpackOf
  rw [idecF_pack fs [] _ ho'.2 (by simp; omega) (by omega), if_pos ⟨by omega, inB_pack fs ho'.2⟩]
  simp only [fOf, List.nil_append]
  rw [if_pos ⟨ho, trivial⟩]

end Go.Proofs.Ytkfbmpllbcladaa.Pure
