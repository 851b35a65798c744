/- One bit turned. -/
import Derived.Test.YtmkcmkkpeimldaaDoorPx28
import Derived.Test.YtmkcmkkpeimldaaDoorQSe
namespace Go.Proofs.YtmkcmkkpeimldaaDoor.Pure
open Go.RowKit Go.Proofs.YtmkcmkkpeimldaaDoor.P Go.Proofs.YtmkcmkkpeimldaaDoorW.PrintWords Go.Proofs.YtmkcmkkpeimldaaDoorW.PrintLast
set_option linter.unusedVariables false
set_option linter.unusedSimpArgs false

theorem lzeros_l0 : ∀ (d k a : Nat), a + d ≤ 1000000 → d < k → laws_zeros.l0 k (d : Int) (ob (Crc.zer a)) = some (ob (Crc.zer (a + d))) := by
  intro d
  induction d with
  | zero =>
    intro k a ha hk
    obtain ⟨k, rfl⟩ : ∃ m, k = m + 1 := ⟨k - 1, by omega⟩
    simp only [laws_zeros.l0]
    rw [if_neg (by omega)]; rfl
  | succ d ih =>
    intro k a ha hk
    obtain ⟨k, rfl⟩ : ∃ m, k = m + 1 := ⟨k - 1, by omega⟩
    simp only [laws_zeros.l0]
    have e : wrap64 (((d + 1 : Nat) : Int) - 1) = (d : Int) := by rw [w64 (by omega) (by omega)]; omega
    rw [if_pos (by omega), if_pos (by rw [ob_len]; simp [Crc.zer]; omega), e, e48o, ← ob_append, ← zer_succ, ih k (a + 1) (by omega) (by omega), show a + 1 + d = a + (d + 1) by omega]
theorem lzeros_some (n k : Nat) (hn : n ≤ 1000000) (hk : n < k) : laws_zeros.f k (n : Int) = some (ob (Crc.zer n)) := by
  unfold laws_zeros.f
  have := lzeros_l0 n k 0 (by omega) hk
  rw [Nat.zero_add] at this
  exact this

/-! One bit turned. -/
def unit (i n : Nat) : List Bool := Crc.zer i ++ ([true] ++ Crc.zer (n - i - 1))
theorem zer_len (n : Nat) : (Crc.zer n).length = n := by simp [Crc.zer]
theorem unit_len (i n : Nat) (h : i < n) : (unit i n).length = n := by unfold unit; simp only [List.length_append, zer_len, List.length_singleton]; omega
theorem xor_unit' (a c : List Bool) (b : Bool) : Crc.xorL (a ++ ([b] ++ c)) (Crc.zer a.length ++ ([true] ++ Crc.zer c.length)) = a ++ ([!b] ++ c) := by
  rw [Crc.xorL_append a _ _ _ (by rw [zer_len]), Crc.xorL_append [b] [true] _ _ rfl, Crc.xorL_zer _ _ rfl, Crc.xorL_zer _ _ rfl]
  cases b <;> rfl
theorem xor_unit (l : List Bool) (i : Nat) (h : i < l.length) : Crc.xorL l (unit i l.length) = l.take i ++ ([!l[i]] ++ l.drop (i + 1)) := by
  have e : l.take i ++ ([l[i]] ++ l.drop (i + 1)) = l := by
    have h2 := List.take_append_drop i l
    rw [List.drop_eq_getElem_cons h] at h2
    exact h2
  have k := xor_unit' (l.take i) (l.drop (i + 1)) l[i]
  rw [e, List.length_take, List.length_drop, Nat.min_eq_left (by omega)] at k
  unfold unit
  rw [show l.length - i - 1 = l.length - (i + 1) by omega]
  exact k
theorem turnBit_some (s : ByteArray) (hb : okBits s = true) (hs : s.size ≤ 1000000) (i : Nat) (hi : i < s.size) : laws_turnBit.f s (i : Int) = some (ob (Crc.xorL (bo s) (unit i s.size))) := by
  unfold laws_turnBit.f
  have hil : i < (bo s).length := by rw [bo_len]; exact hi
  have h0 : (s.extract 0 i).size = i := by rw [ByteArray.size_extract]; omega
  have h1 : (s.extract (i + 1) s.size).size = s.size - (i + 1) := by rw [ByteArray.size_extract]; omega
  have key : ∀ z : Bool, z = (!(bo s)[i]) → (s.extract 0 i) ++ ob [z] ++ (s.extract (i + 1) s.size) = ob (Crc.xorL (bo s) (unit i s.size)) := by
    intro z hz
    refine bo_inj (by rw [okBits_append, okBits_append, okBits_extract s hb, okBits_extract s hb, okBits_ob]; rfl) (okBits_ob _) ?_
    have hx := xor_unit (bo s) i hil
    rw [bo_len] at hx
    rw [bo_ob, hx, bo_append, bo_append, bo_ob, bo_extract, bo_extract, List.drop_zero, Nat.sub_zero, List.take_of_length_le (l := (bo s).drop (i + 1)) (by rw [List.length_drop, bo_len]; omega), hz, List.append_assoc]
  rw [if_pos (show (0 : Int) ≤ (i : Int) by omega), if_pos (show (i : Int) < (s.size : Int) by omega), w64s (by omega), bit_at s hb i hi, Int.toNat_natCast, Int.toNat_natCast, e48o, e49o]
  have f1 : (s.extract 0 i).size + 1 ≤ 9223372036854775807 := by omega
  have f2 : ∀ z : Bool, ((s.extract 0 i) ++ ob [z]).size + (s.extract (i + 1) s.size).size ≤ 9223372036854775807 := by
    intro z
    rw [ByteArray.size_append, ob_len, h0, h1]; simp; omega
  cases hc : (bo s)[i] with
  | true =>
    rw [if_pos (show ib true = 49 from rfl), if_pos (show (i : Int) ≤ (s.size : Int) by omega), if_pos f1, if_pos (show (0 : Int) ≤ ((i + 1 : Nat) : Int) by omega), if_pos (show ((i + 1 : Nat) : Int) ≤ (s.size : Int) by omega), if_pos (f2 false), key false (by rw [hc]; rfl)]
  | false =>
    rw [if_neg (by decide), if_pos (show (i : Int) ≤ (s.size : Int) by omega), if_pos f1, if_pos (show (0 : Int) ≤ ((i + 1 : Nat) : Int) by omega), if_pos (show ((i + 1 : Nat) : Int) ≤ (s.size : Int) by omega), if_pos (f2 true), key true (by rw [hc]; rfl)]
theorem isB_parts {p s : ByteArray} (h : isB p s = true) : okPoly p = true ∧ okBits s = true ∧ s.size ≤ 40 ∧ p.size - 1 ≤ s.size ∧ Crc.rst (pt p) (bo s) = Crc.zer (pt p).length := by
  unfold isB at h
  simp only [Bool.and_eq_true, decide_eq_true_eq] at h
  obtain ⟨⟨⟨h1, h2, h3⟩, h4⟩, h5⟩ := h
  have := (allz_iff _).1 h5
  rw [Crc.rst_length] at this
  exact ⟨h1, h2, h3, h4, this⟩
theorem isB_of {p s : ByteArray} (h1 : okPoly p = true) (h2 : okBits s = true) (h3 : s.size ≤ 40) (h4 : p.size - 1 ≤ s.size) (h5 : Crc.rst (pt p) (bo s) = Crc.zer (pt p).length) : isB p s = true := by
  unfold isB
  rw [h1, h2, decide_eq_true h3, decide_eq_true h4, (allz_iff _).2 (by rw [Crc.rst_length]; exact h5)]
  rfl
theorem isB_not {p s : ByteArray} (h : Crc.rst (pt p) (bo s) ≠ Crc.zer (pt p).length) : isB p s = false := by
  cases e : isB p s with
  | false => rfl
  | true => exact absurd (isB_parts e).2.2.2.2 h
theorem xor_zer_left (l : List Bool) : Crc.xorL (Crc.zer l.length) l = l := by rw [Crc.xorL_comm, Crc.xorL_zer _ _ rfl]
/-- One bit turned in what is sealed is seen. -/
theorem turned_one {p s : ByteArray} (h : isB p s = true) (i : Nat) (hi : i < s.size) : isB p (ob (Crc.xorL (bo s) (unit i s.size))) = false := by
  obtain ⟨h1, h2, h3, h4, h5⟩ := isB_parts h
  refine isB_not ?_
  rw [bo_ob, Crc.rst_xor _ _ _ (by rw [bo_len, unit_len i s.size hi]), h5]
  have hl : (pt p).length = (Crc.rst (pt p) (unit i s.size)).length := by rw [Crc.rst_length]
  rw [show Crc.xorL (Crc.zer (pt p).length) (Crc.rst (pt p) (unit i s.size)) = Crc.rst (pt p) (unit i s.size) by
    conv => lhs; rw [hl]
    exact xor_zer_left _]
  unfold unit
  rw [← List.append_assoc]
  exact Crc.one_bit (pt_last h1) _ _
theorem unit_two (i n : Nat) (h : i + 1 < n) : Crc.xorL (unit i n) (unit (i + 1) n) = Crc.zer i ++ [true, true] ++ Crc.zer (n - i - 2) := by
  have e1 : unit i n = Crc.zer i ++ ([true] ++ ([false] ++ Crc.zer (n - i - 2))) := by
    unfold unit
    rw [show n - i - 1 = (n - i - 2) + 1 by omega]
    unfold Crc.zer
    rw [List.replicate_succ]; rfl
  have e2 : unit (i + 1) n = Crc.zer i ++ ([false] ++ ([true] ++ Crc.zer (n - i - 2))) := by
    unfold unit
    rw [zer_succ, show n - (i + 1) - 1 = n - i - 2 by omega, List.append_assoc]
  rw [e1, e2, Crc.xorL_append _ _ _ _ rfl, Crc.xorL_self, zer_len, List.append_assoc]
  congr 1
  rw [Crc.xorL_append [true] [false] _ _ rfl, Crc.xorL_append [false] [true] _ _ rfl, Crc.xorL_self, zer_len]
  rfl
/-- Two bits side by side. -/
theorem turned_two {p s : ByteArray} (h : isB p s = true) (hp : 2 < p.size) (i : Nat) (hi : i + 1 < s.size) : isB p (ob (Crc.xorL (Crc.xorL (bo s) (unit i s.size)) (unit (i + 1) s.size))) = false := by
  obtain ⟨h1, h2, h3, h4, h5⟩ := isB_parts h
  refine isB_not ?_
  have hu1 := unit_len i s.size (by omega)
  have hu2 := unit_len (i + 1) s.size hi
  rw [bo_ob, Crc.xorL_assoc _ _ _ (by rw [bo_len, hu1]) (by rw [hu1, hu2]), unit_two i s.size hi]
  have hul : (Crc.zer i ++ [true, true] ++ Crc.zer (s.size - i - 2)).length = s.size := by simp only [List.length_append, zer_len, List.length_cons, List.length_nil]; omega
  rw [Crc.rst_xor _ _ _ (by rw [bo_len, hul]), h5]
  have hl : (pt p).length = (Crc.rst (pt p) (Crc.zer i ++ [true, true] ++ Crc.zer (s.size - i - 2))).length := by rw [Crc.rst_length]
  rw [show Crc.xorL (Crc.zer (pt p).length) (Crc.rst (pt p) (Crc.zer i ++ [true, true] ++ Crc.zer (s.size - i - 2))) = Crc.rst (pt p) (Crc.zer i ++ [true, true] ++ Crc.zer (s.size - i - 2)) by
    conv => lhs; rw [hl]
    exact xor_zer_left _]
  exact Crc.two_bits (pt_last h1) (by rw [pt_len]; omega) _ _

end Go.Proofs.YtmkcmkkpeimldaaDoor.Pure
