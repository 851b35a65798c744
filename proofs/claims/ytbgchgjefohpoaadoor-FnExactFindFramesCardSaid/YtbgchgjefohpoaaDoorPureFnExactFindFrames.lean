/- The pure part of FnExactFindFrames: the Lean function of the law answers true for every argument. -/
import Derived.Test.YtbgchgjefohpoaaDoorPx13
import Derived.Test.YtbgchgjefohpoaaDoorPx17
import Derived.Test.YtbgchgjefohpoaaDoorPx18
import Derived.Test.YtbgchgjefohpoaaDoorPx19
import Derived.Test.YtbgchgjefohpoaaDoorQF
namespace Go.Proofs.YtbgchgjefohpoaaDoor.Pure
open Go.RowKit Go.Proofs.YtbgchgjefohpoaaDoor.P Go.Proofs.YtbgchgjefohpoaaDoorW.PrintWords Go.Proofs.YtbgchgjefohpoaaDoorW.PrintLast
set_option linter.unusedVariables false
set_option linter.unusedSimpArgs false

/-! The exact laws' helpers at lists of texts. -/
theorem eqStringS_l0 (a : List ByteArray) (hn : a.length ≤ 1000000) : ∀ (d j k : Nat), a.length - j = d → j ≤ a.length → d < k → laws_eqStringS.l0 k a a (j : Int) = some true := by
  intro d
  induction d with
  | zero =>
    intro j k hd hj hk
    obtain ⟨k, rfl⟩ : ∃ m, k = m + 1 := ⟨k - 1, by omega⟩
    simp only [laws_eqStringS.l0]
    rw [if_neg (by omega)]
  | succ d ih =>
    intro j k hd hj hk
    obtain ⟨k, rfl⟩ : ∃ m, k = m + 1 := ⟨k - 1, by omega⟩
    simp only [laws_eqStringS.l0]
    rw [if_pos (by omega), if_pos (by omega), if_pos (by omega), if_pos trivial, w64s (by omega)]
    exact ih (j + 1) k (by omega) (by omega) (by omega)
theorem eqStringS_some (a : List ByteArray) (hn : a.length ≤ 1000000) (k : Nat) (hk : a.length < k) : laws_eqStringS.f k a a = some true := by
  unfold laws_eqStringS.f
  rw [if_pos rfl]
  exact eqStringS_l0 a hn a.length 0 k rfl (by omega) hk
theorem markText_l0 : ∀ (d : Nat) (n : Int) (acc : ByteArray), 0 ≤ n → n < 10 ^ d → n ≤ 1000000000000 → acc.size + d ≤ 1000 → ∃ t, ∀ k, d < k → laws_markText.l0 k n acc = some t := by
  intro d
  induction d with
  | zero =>
    intro n acc h0 hn hb ha
    refine ⟨(⟨#[109]⟩ : ByteArray) ++ acc, fun k hk => ?_⟩
    obtain ⟨k, rfl⟩ : ∃ m, k = m + 1 := ⟨k - 1, by omega⟩
    simp only [laws_markText.l0]
    rw [if_neg (by simp at hn; omega), if_pos (by omega)]
  | succ d ih =>
    intro n acc h0 hn hb ha
    by_cases hz : n > 0
    · have e1 : Int.tdiv n 10 = n / 10 := Int.tdiv_eq_ediv_of_nonneg h0
      have e2 : 10 ^ (d + 1) = (10 : Int) ^ d * 10 := Int.pow_succ ..
      obtain ⟨t, ht⟩ := ih (n / 10) (strOfNums [(wrap64 (48 + (Int.tmod n 10))) % 256] ++ acc) (by omega) (by rw [e2] at hn; omega) (by omega) (by rw [ByteArray.size_append, strOfNums_size]; simp; omega)
      refine ⟨t, fun k hk => ?_⟩
      obtain ⟨k, rfl⟩ : ∃ m, k = m + 1 := ⟨k - 1, by omega⟩
      simp only [laws_markText.l0]
      rw [if_pos hz, bsome, if_pos (by rw [strOfNums_size]; simp; omega), e1, w64 (by omega) (by omega), ht k (by omega)]
    · refine ⟨(⟨#[109]⟩ : ByteArray) ++ acc, fun k hk => ?_⟩
      obtain ⟨k, rfl⟩ : ∃ m, k = m + 1 := ⟨k - 1, by omega⟩
      simp only [laws_markText.l0]
      rw [if_neg hz, if_pos (by omega)]
def mtx (n : Int) : ByteArray := (laws_markText.f 100 n).getD ByteArray.empty
theorem markText_some (n : Int) (h0 : 0 ≤ n) (hn : n ≤ 1000000000) (k : Nat) (hk : 50 ≤ k) : laws_markText.f k n = some (mtx n) := by
  unfold mtx laws_markText.f
  by_cases hz : n ≤ 0
  · rw [if_pos hz, if_pos hz]; rfl
  · rw [if_neg hz, if_neg hz]
    obtain ⟨t, ht⟩ := markText_l0 12 n (⟨#[]⟩ : ByteArray) h0 (by omega) (by omega) (by decide)
    rw [ht k (by omega), ht 100 (by omega)]
    rfl
def marks (m : Int) : Nat → List ByteArray
  | 0 => []
  | n + 1 => mtx m :: marks (m + 1) n
theorem marks_len : ∀ (n : Nat) (m : Int), (marks m n).length = n
  | 0, _ => rfl
  | n + 1, m => by simp [marks, marks_len n]
theorem markStringS_l0 : ∀ (d j k : Nat) (l : List ByteArray) (m : Int), l.length - j = d → j ≤ l.length → l.length ≤ 1000000 → 0 ≤ m → m + d ≤ 1000000 → d + 60 < k →
    laws_markStringS.l0 k l m (j : Int) = some (m + d, l.take j ++ marks m d) := by
  intro d
  induction d with
  | zero =>
    intro j k l m hd hj hn h0 hm hk
    obtain ⟨k, rfl⟩ : ∃ m, k = m + 1 := ⟨k - 1, by omega⟩
    simp only [laws_markStringS.l0]
    rw [if_neg (by omega), List.take_of_length_le (by omega)]
    simp [marks]
  | succ d ih =>
    intro j k l m hd hj hn h0 hm hk
    obtain ⟨k, rfl⟩ : ∃ m, k = m + 1 := ⟨k - 1, by omega⟩
    simp only [laws_markStringS.l0]
    rw [if_pos (by omega), markText_some m h0 (by omega) k (by omega), bsome, if_pos (by omega), w64s (by omega), w64 (n := m + 1) (by omega) (by omega), Int.toNat_natCast,
      ih (j + 1) k _ (m + 1) (by simp; omega) (by simp; omega) (by simpa using hn) (by omega) (by omega) (by omega)]
    have e : (l.set j (mtx m)).take (j + 1) = l.take j ++ [mtx m] := by
      rw [List.take_add_one, List.take_set_of_le (by omega)]
      simp [show j < l.length by omega]
    rw [e, marks]
    simp only [Option.some.injEq, Prod.mk.injEq, List.append_assoc, List.singleton_append, and_true]
    omega
theorem rdOf_nat (l : List ByteArray) (j : Nat) (h : j < l.length) : rdOf ByteArray.empty l (j : Int) = l[j] := by
  unfold rdOf
  rw [Int.toNat_natCast, List.getD_eq_getElem?_getD, List.getElem?_eq_getElem h]
  rfl
theorem marks_get : ∀ (n : Nat) (m : Int) (j : Nat) (h : j < (marks m n).length), (marks m n)[j] = mtx (m + j)
  | 0, m, j, h => by simp [marks] at h
  | n + 1, m, 0, h => by simp [marks]
  | n + 1, m, j + 1, h => by
    simp only [marks, List.getElem_cons_succ]
    rw [marks_get n (m + 1) j]
    congr 1
    omega
theorem heldStringS_l0 (n : Nat) (m : Int) (hn : n ≤ 100000) (h0 : 0 ≤ m) (hm : m ≤ 100000) : ∀ (d j k : Nat), n - j = d → j ≤ n → d + 60 < k → laws_heldStringS.l0 k (marks m n) (m + j) (j : Int) = some (m + n) := by
  intro d
  induction d with
  | zero =>
    intro j k hd hj hk
    obtain ⟨k, rfl⟩ : ∃ m, k = m + 1 := ⟨k - 1, by omega⟩
    simp only [laws_heldStringS.l0]
    rw [marks_len, if_neg (by omega), show j = n by omega]
  | succ d ih =>
    intro j k hd hj hk
    obtain ⟨k, rfl⟩ : ∃ m, k = m + 1 := ⟨k - 1, by omega⟩
    simp only [laws_heldStringS.l0]
    rw [marks_len, if_pos (by omega), if_pos (by omega), markText_some (m + j) (by omega) (by omega) k (by omega), bsome, rdOf_nat _ j (by rw [marks_len]; omega), marks_get, if_pos rfl, w64s (by omega), w64 (by omega) (by omega),
      show m + (j : Int) + 1 = m + ((j + 1 : Nat) : Int) by omega]
    exact ih (j + 1) k (by omega) (by omega) (by omega)

theorem Gf_len (ps : List (List Int)) : (Gf ps).length ≤ ps.length := by
  unfold Gf
  rw [List.length_map]
  have := List.length_filter_le (fun p : List Int => !p.isEmpty) ps.dropLast
  rw [List.length_dropLast] at this
  omega
theorem fnd_len (s : ByteArray) : (fnd s).length ≤ 302 := by
  unfold fnd
  split
  · rename_i h
    have h1 := pcs_len FL (s.size + 1) [] (bl s)
    have h2 := Gf_len ((pcs FL (s.size + 1) [] (bl s)).tail)
    rw [List.length_tail] at h2
    omega
  · simp
theorem FnExactFindFrames : laws_FnExactFindFrames.Pure := by
  intro s hs
  refine ⟨20000, ?_⟩
  unfold laws_FnExactFindFrames.f
  have hl := fnd_len s
  split
  · rfl
  · rw [specF_some s _ (by omega), bsome, implF_some s (by omega) _ (by omega), bsome, eqStringS_some _ (by omega) _ (by omega), bsome, if_pos rfl]
    have hm := markStringS_l0 (fnd s).length 0 20000 (fnd s) 1 (by omega) (by omega) (by omega) (by omega) (by omega) (by omega)
    have hh := heldStringS_l0 (fnd s).length 1 (by omega) (by omega) (by omega) (fnd s).length 0 20000 (by omega) (by omega) (by omega)
    rw [show ((0 : Nat) : Int) = 0 by rfl] at hm hh
    rw [List.take_zero, List.nil_append] at hm
    rw [Int.add_zero] at hh
    unfold laws_markStringS.f laws_heldStringS.f
    rw [hm, bsome]
    simp only []
    rw [hh, bsome, if_neg (by omega), if_pos rfl, bsome, eqStringS_some _ (by omega) _ (by omega), bsome, if_pos rfl, bsome, if_neg (by omega), if_pos rfl]

end Go.Proofs.YtbgchgjefohpoaaDoor.Pure
