/- Lists of numbers held against each other; bytes; bytes that end. -/
import Derived.Test.YtkfbmpllbcladaaPx10
import Derived.Test.YtkfbmpllbcladaaPx13
import Derived.Test.YtkfbmpllbcladaaPx5
import Derived.Test.YtkfbmpllbcladaaPx6
import Derived.Test.YtkfbmpllbcladaaPx8
import Derived.Test.YtkfbmpllbcladaaPx9
import Derived.Test.YtkfbmpllbcladaaQReader
namespace Go.Proofs.Ytkfbmpllbcladaa.Pure
open Go.RowKit Go.Proofs.Ytkfbmpllbcladaa.P Go.Proofs.YtkfbmpllbcladaaW.PrintWords Go.Proofs.YtkfbmpllbcladaaW.PrintLast
set_option linter.unusedVariables false
set_option linter.unusedSimpArgs false

/-! Lists of numbers: held against each other, and bytes. -/

theorem rd_nat (l : List Int) (j : Nat) (h : j < l.length) : rd l (j : Int) = l[j] := by
  unfold rd; rw [Int.toNat_natCast, List.getD_eq_getElem?_getD, List.getElem?_eq_getElem h]; rfl

theorem w64s {j : Nat} (h : j ≤ 1000000000000) : wrap64 ((j : Int) + 1) = ((j + 1 : Nat) : Int) := by rw [w64 (by omega) (by omega)]; omega

/-- Not by unfolding: the kernel then has nothing to count. -/
theorem bsome {α β : Type} (a : α) (f : α → Option β) : (some a).bind f = f a := by
  cases h : (some a).bind f <;> simp_all

def inB (x : Int) : Bool := decide (0 ≤ x) && decide (x ≤ 255)

theorem equalInts_l0 (a b : List Int) (hl : a.length = b.length) (hn : a.length ≤ 1000000000) : ∀ (d j k : Nat), a.length - j = d → j ≤ a.length → d < k → laws_equalInts.l0 k a b (j : Int) = some (decide (a.drop j = b.drop j)) := by
  intro d
  induction d with
  | zero =>
    intro j k hd hj hk
    obtain ⟨k, rfl⟩ : ∃ m, k = m + 1 := ⟨k - 1, by omega⟩
    simp only [laws_equalInts.l0]
    rw [if_neg (by omega), List.drop_eq_nil_of_le (by omega), List.drop_eq_nil_of_le (by omega)]
    rfl
  | succ d ih =>
    intro j k hd hj hk
    obtain ⟨k, rfl⟩ : ∃ m, k = m + 1 := ⟨k - 1, by omega⟩
    simp only [laws_equalInts.l0]
    rw [if_pos (by omega), if_pos (by omega), if_pos (by omega), rd_nat a j (by omega), rd_nat b j (by omega), w64s (by omega), ih (j + 1) k (by omega) (by omega) (by omega)]
    rw [List.drop_eq_getElem_cons (l := a) (by omega : j < a.length), List.drop_eq_getElem_cons (l := b) (by omega : j < b.length)]
    by_cases h : a[j] = b[j]
    · rw [if_pos h, h]; simp only [List.cons.injEq, true_and]
    · rw [if_neg h]; simp only [List.cons.injEq, h, false_and, decide_false]

theorem equalInts_some (a b : List Int) (hn : a.length ≤ 1000000000) (k : Nat) (hk : a.length < k) : laws_equalInts.f k a b = some (decide (a = b)) := by
  unfold laws_equalInts.f
  split
  · rename_i h
    have := equalInts_l0 a b (by omega) hn a.length 0 k (by omega) (by omega) hk
    simpa using this
  · rename_i h
    have : a ≠ b := fun e => h (by rw [e])
    simp [this]

theorem Equal_l0 (a b : List Int) (hl : a.length = b.length) (hn : a.length ≤ 1000000000) : ∀ (d j k : Nat), a.length - j = d → j ≤ a.length → d < k → slices_Equal_int_int.l0 k a b (a.length : Int) (j : Int) = some (decide (a.drop j = b.drop j)) := by
  intro d
  induction d with
  | zero =>
    intro j k hd hj hk
    obtain ⟨k, rfl⟩ : ∃ m, k = m + 1 := ⟨k - 1, by omega⟩
    simp only [slices_Equal_int_int.l0]
    rw [if_neg (by omega), List.drop_eq_nil_of_le (by omega), List.drop_eq_nil_of_le (by omega)]
    rfl
  | succ d ih =>
    intro j k hd hj hk
    obtain ⟨k, rfl⟩ : ∃ m, k = m + 1 := ⟨k - 1, by omega⟩
    simp only [slices_Equal_int_int.l0]
    rw [if_pos (by omega), if_pos (by omega), if_pos (by omega), if_pos (by omega), rd_nat a j (by omega), rd_nat b j (by omega), w64s (by omega), ih (j + 1) k (by omega) (by omega) (by omega)]
    rw [List.drop_eq_getElem_cons (l := a) (by omega : j < a.length), List.drop_eq_getElem_cons (l := b) (by omega : j < b.length)]
    by_cases h : a[j] = b[j]
    · rw [if_pos h, h]; simp only [List.cons.injEq, true_and]
    · rw [if_neg h]; simp only [List.cons.injEq, h, false_and, decide_false]

theorem Equal_some (a b : List Int) (hn : a.length ≤ 1000000000) (k : Nat) (hk : a.length < k) : slices_Equal_int_int.f k a b = some (decide (a = b)) := by
  unfold slices_Equal_int_int.f
  split
  · rename_i h
    have := Equal_l0 a b (by omega) hn a.length 0 k (by omega) (by omega) hk
    simpa using this
  · rename_i h
    have : a ≠ b := fun e => h (by rw [e])
    simp [this]

theorem inRange_some (a b c : Int) : spec_inRange.f a b c = some (decide (b ≤ a) && decide (a ≤ c)) := by
  unfold spec_inRange.f; split <;> rename_i h <;> simp [h]

theorem validBytes_l0 (l : List Int) (m : Int) (hn : l.length ≤ 1000000000) : ∀ (d j k : Nat), l.length - j = d → j ≤ l.length → d < k → spec_validBytes.l0 k l m (j : Int) = some ((l.drop j).all inB && decide ((l.length : Int) ≤ m)) := by
  intro d
  induction d with
  | zero =>
    intro j k hd hj hk
    obtain ⟨k, rfl⟩ : ∃ m, k = m + 1 := ⟨k - 1, by omega⟩
    simp only [spec_validBytes.l0]
    rw [if_neg (by omega), List.drop_eq_nil_of_le (by omega)]
    simp
  | succ d ih =>
    intro j k hd hj hk
    obtain ⟨k, rfl⟩ : ∃ m, k = m + 1 := ⟨k - 1, by omega⟩
    simp only [spec_validBytes.l0]
    rw [if_pos (by omega), if_pos (by omega), rd_nat l j (by omega), inRange_some, Option.bind_some, w64s (by omega), ih (j + 1) k (by omega) (by omega) (by omega)]
    rw [List.drop_eq_getElem_cons (l := l) (by omega : j < l.length), List.all_cons]
    show (if inB l[j] = true then _ else _) = _
    cases inB l[j] <;> simp

theorem validBytes_some (l : List Int) (m : Int) (hn : l.length ≤ 1000000000) (k : Nat) (hk : l.length < k) : spec_validBytes.f k l m = some (l.all inB && decide ((l.length : Int) ≤ m)) := by
  have := validBytes_l0 l m hn l.length 0 k (by omega) (by omega) hk
  unfold spec_validBytes.f
  simpa using this

theorem bytesAlone_some (l : List Int) (hn : l.length ≤ 1000000000) : impl_bytesAlone.f l = some (l.all inB) := by
  unfold impl_bytesAlone.f
  rw [if_pos (by omega)]
  congr 1
  induction l with
  | nil => rfl
  | cons x l ih =>
    rw [List.any_cons, List.all_cons, Bool.not_or, ih (by simp at hn; omega)]
    congr 1
    unfold noByte inB
    by_cases h0 : x < 0 <;> by_cases h1 : 255 < x <;> simp [h0, h1] <;> omega

def okB (l : List Int) : Bool := decide (l.length ≤ 16) && l.all inB
theorem bytesOk_some (l : List Int) (hn : l.length ≤ 1000000000) : impl_bytesOk.f l = some (okB l) := by
  unfold impl_bytesOk.f okB
  rw [bytesAlone_some l hn]
  by_cases h : l.length ≤ 16
  · rw [if_pos (by omega)]; simp [h]
  · rw [if_neg (by omega)]; simp [h]
theorem validBytes16 (l : List Int) (hn : l.length ≤ 1000000000) (k : Nat) (hk : l.length < k) : spec_validBytes.f k l 16 = some (okB l) := by
  rw [validBytes_some l 16 hn k hk, okB, Bool.and_comm]
  congr 2
  simp only [decide_eq_decide]; omega

def esc1 (x : Int) : List Int := if x = 192 then [219, 220] else if x = 219 then [219, 221] else [x]
def esc (l : List Int) : List Int := l.flatMap esc1
theorem esc_cons (x : Int) (l : List Int) : esc (x :: l) = esc1 x ++ esc l := rfl
theorem esc1_le (x : Int) : (esc1 x).length ≤ 2 := by unfold esc1; split; simp; split <;> simp
theorem esc_le : ∀ l : List Int, (esc l).length ≤ 2 * l.length
  | [] => by simp [esc]
  | x :: l => by rw [esc_cons, List.length_append, List.length_cons]; have := esc1_le x; have := esc_le l; omega

theorem implEscape_l0 (l : List Int) (hn : l.length ≤ 1000000000) : ∀ (d j k : Nat) (acc : List Int), l.length - j = d → j ≤ l.length → d < k → acc.length + 2 * d ≤ 10000000000 → impl_EscapeBytes.l0 k acc l (l.length : Int) (j : Int) = some (acc ++ esc (l.drop j) ++ [192]) := by
  intro d
  induction d with
  | zero =>
    intro j k acc hd hj hk ha
    obtain ⟨k, rfl⟩ : ∃ m, k = m + 1 := ⟨k - 1, by omega⟩
    simp only [impl_EscapeBytes.l0]
    rw [if_neg (by omega), if_pos (by omega), List.drop_eq_nil_of_le (by omega)]
    simp [esc]
  | succ d ih =>
    intro j k acc hd hj hk ha
    obtain ⟨k, rfl⟩ : ∃ m, k = m + 1 := ⟨k - 1, by omega⟩
    simp only [impl_EscapeBytes.l0, Option.bind_some, List.length_cons, List.length_nil]
    rw [if_pos (by omega), if_pos (by omega), if_pos (by omega), rd_nat l j (by omega), w64s (by omega), List.drop_eq_getElem_cons (l := l) (by omega : j < l.length), esc_cons]
    have hg := ih (j + 1) k
    unfold esc1
    by_cases h1 : l[j] = 192
    · rw [if_pos h1, if_pos h1, if_pos (by omega), hg _ (by omega) (by omega) (by omega) (by simp; omega)]; simp
    · rw [if_neg h1, if_neg h1]
      by_cases h2 : l[j] = 219
      · rw [if_pos h2, if_pos h2, if_pos (by omega), hg _ (by omega) (by omega) (by omega) (by simp; omega)]; simp
      · rw [if_neg h2, if_neg h2, if_pos (by omega), hg _ (by omega) (by omega) (by omega) (by simp; omega)]; simp

def escOf (l : List Int) : List Int := if okB l = true then esc l ++ [192] else []
theorem implEscape_some (l : List Int) (hn : l.length ≤ 1000000000) (k : Nat) (hk : l.length < k) : impl_EscapeBytes.f k l = some (escOf l) := by
  unfold impl_EscapeBytes.f escOf
  rw [bytesOk_some l hn, Option.bind_some]
  split
  · have := implEscape_l0 l hn l.length 0 k [] (by omega) (by omega) hk (by simp; omega)
    simpa using this
  · rfl

theorem specEscape_l0 (l : List Int) (hn : l.length ≤ 1000000000) : ∀ (d j k : Nat) (acc : List Int), l.length - j = d → j ≤ l.length → d < k → acc.length + 2 * d ≤ 10000000000 → spec_EscapeBytes.l0 k l acc (j : Int) = some (acc ++ esc (l.drop j) ++ [192]) := by
  intro d
  induction d with
  | zero =>
    intro j k acc hd hj hk ha
    obtain ⟨k, rfl⟩ : ∃ m, k = m + 1 := ⟨k - 1, by omega⟩
    simp only [spec_EscapeBytes.l0]
    rw [if_neg (by omega), if_pos (by omega), List.drop_eq_nil_of_le (by omega)]
    simp [esc]
  | succ d ih =>
    intro j k acc hd hj hk ha
    obtain ⟨k, rfl⟩ : ∃ m, k = m + 1 := ⟨k - 1, by omega⟩
    simp only [spec_EscapeBytes.l0, Option.bind_some, List.length_cons, List.length_nil]
    rw [if_pos (by omega), if_pos (by omega), rd_nat l j (by omega), w64s (by omega), List.drop_eq_getElem_cons (l := l) (by omega : j < l.length), esc_cons]
    have hg := ih (j + 1) k
    unfold esc1
    by_cases h1 : l[j] = 192
    · rw [if_pos h1, if_pos h1, if_pos (by omega), hg _ (by omega) (by omega) (by omega) (by simp; omega)]; simp
    · rw [if_neg h1, if_neg h1]
      by_cases h2 : l[j] = 219
      · rw [if_pos h2, if_pos h2, if_pos (by omega), hg _ (by omega) (by omega) (by omega) (by simp; omega)]; simp
      · rw [if_neg h2, if_neg h2, if_pos (by omega), hg _ (by omega) (by omega) (by omega) (by simp; omega)]; simp

theorem specEscape_some (l : List Int) (hn : l.length ≤ 1000000000) (k : Nat) (hk : l.length < k) : spec_EscapeBytes.f k l = some (escOf l) := by
  unfold spec_EscapeBytes.f escOf
  rw [validBytes16 l hn k hk, Option.bind_some]
  split
  · have := specEscape_l0 l hn l.length 0 k [] (by omega) (by omega) hk (by simp; omega)
    simpa using this
  · rfl

end Go.Proofs.Ytkfbmpllbcladaa.Pure
