/- FlagFrames of any texts. -/
import Derived.Test.YtbgchgjefohpoaaDoorPx10
import Derived.Test.YtbgchgjefohpoaaDoorPx11
import Derived.Test.YtbgchgjefohpoaaDoorPx12
import Derived.Test.YtbgchgjefohpoaaDoorPx13
import Derived.Test.YtbgchgjefohpoaaDoorPx14
import Derived.Test.YtbgchgjefohpoaaDoorPx17
import Derived.Test.YtbgchgjefohpoaaDoorPx18
import Derived.Test.YtbgchgjefohpoaaDoorPx8
import Derived.Test.YtbgchgjefohpoaaDoorPx9
import Derived.Test.YtbgchgjefohpoaaDoorQF
namespace Go.Proofs.YtbgchgjefohpoaaDoor.Pure
open Go.RowKit Go.Proofs.YtbgchgjefohpoaaDoor.P Go.Proofs.YtbgchgjefohpoaaDoorW.PrintWords Go.Proofs.YtbgchgjefohpoaaDoorW.PrintLast
set_option linter.unusedVariables false
set_option linter.unusedSimpArgs false

/-! FlagFrames: both programs. -/
/-- Frames. -/
def okF (s : ByteArray) : Bool := (okBits s && decide (s.size ≤ 40)) && decide (s.size ≠ 0)
def cat (l : List ByteArray) : List Int := l.flatMap fun s => stf 0 (bl s) ++ FL
def fl (l : List ByteArray) : ByteArray := if l.all okF = true ∧ l.length ≤ 4 then tb (FL ++ cat l) else tb []
theorem rdOf_nat (l : List ByteArray) (j : Nat) (h : j < l.length) : rdOf ByteArray.empty l (j : Int) = l[j] := by
  unfold rdOf
  rw [Int.toNat_natCast, List.getD_eq_getElem?_getD, List.getElem?_eq_getElem h]
  rfl
theorem validF_l0 (l : List ByteArray) (hl : l.length ≤ 100000) (hs : ∀ s ∈ l, s.size ≤ 10000) : ∀ (d j k : Nat), l.length - j = d → j ≤ l.length → d + 20000 < k → spec_validFrames.l0 k l (j : Int) = some ((l.drop j).all okF && decide (l.length ≤ 4)) := by
  intro d
  induction d with
  | zero =>
    intro j k hd hj hk
    obtain ⟨k, rfl⟩ : ∃ m, k = m + 1 := ⟨k - 1, by omega⟩
    simp only [spec_validFrames.l0]
    rw [if_neg (by omega), List.drop_eq_nil_of_le (by omega)]
    simp only [List.all_nil, Bool.true_and, Option.some.injEq, decide_eq_decide]
    omega
  | succ d ih =>
    intro j k hd hj hk
    obtain ⟨k, rfl⟩ : ∃ m, k = m + 1 := ⟨k - 1, by omega⟩
    simp only [spec_validFrames.l0]
    have hm := hs l[j] (List.getElem_mem (by omega))
    rw [if_pos (by omega), if_pos (by omega), rdOf_nat l j (by omega), validBits_some _ (by omega) _ (by omega), bsome, w64s (by omega), ih (j + 1) k (by omega) (by omega) (by omega), List.drop_eq_getElem_cons (show j < l.length by omega), List.all_cons]
    generalize l[j] = s
    unfold okF
    cases h1 : (okBits s && decide (s.size ≤ 40)) with
    | false => rw [if_neg (by simp)]; simp
    | true =>
      rw [if_pos rfl]
      by_cases h0 : s.toList = ([] : List UInt8)
      · rw [if_pos h0]
        have := (toList_nil_iff s).1 h0
        simp [this]
      · rw [if_neg h0]
        have : s.size ≠ 0 := fun e => h0 ((toList_nil_iff s).2 e)
        simp [this]
theorem tb_app2 (a b c : List Int) : (tb a ++ tb b) ++ tb c = tb (a ++ (b ++ c)) := by rw [tb_append, tb_append, app_assoc]
theorem stfB {s : ByteArray} (h : okF s = true) : okBits s = true ∧ s.size ≤ 40 ∧ s.size ≠ 0 ∧ (stf 0 (bl s)).length ≤ 48 := by
  unfold okF at h
  simp only [Bool.and_eq_true, decide_eq_true_eq] at h
  have := stf_len (bl s) 0 (by omega) (by omega)
  rw [bl_len] at this
  exact ⟨h.1.1, h.1.2, h.2, by omega⟩
theorem specFl_l0 (l : List ByteArray) (hl : l.length ≤ 4) (ho : l.all okF = true) : ∀ (d j k : Nat) (acc : List Int), l.length - j = d → j ≤ l.length → acc.length ≤ 10 + 100 * j → d + 2000 < k →
    spec_FlagFrames.l0 k l (tb acc) (j : Int) = some (tb (acc ++ cat (l.drop j))) := by
  intro d
  induction d with
  | zero =>
    intro j k acc hd hj ha hk
    obtain ⟨k, rfl⟩ : ∃ m, k = m + 1 := ⟨k - 1, by omega⟩
    simp only [spec_FlagFrames.l0]
    rw [if_neg (by omega), List.drop_eq_nil_of_le (by omega)]
    simp [cat]
  | succ d ih =>
    intro j k acc hd hj ha hk
    obtain ⟨k, rfl⟩ : ∃ m, k = m + 1 := ⟨k - 1, by omega⟩
    simp only [spec_FlagFrames.l0]
    have h1 := stfB (List.all_eq_true.1 ho l[j] (List.getElem_mem (by omega)))
    rw [if_pos (by omega), if_pos (by omega), rdOf_nat l j (by omega), stuff_some _ (by omega) _ (by omega), bsome, if_pos (by rw [tb_len, tb_len]; omega)]
    unfold spec_flag.f
    rw [bsome, flag_tb, if_pos (by rw [ByteArray.size_append, tb_len, tb_len, tb_len]; simp [FL]; omega), tb_app2, w64s (by omega),
      ih (j + 1) k _ (by omega) (by omega) (by simp [FL]; omega) (by omega), List.drop_eq_getElem_cons (show j < l.length by omega)]
    generalize l[j] = s
    generalize l.drop (j + 1) = r
    simp [cat]
theorem specFl_some (l : List ByteArray) (hl : l.length ≤ 100000) (hs : ∀ s ∈ l, s.size ≤ 10000) (k : Nat) (hk : 130000 ≤ k) : spec_FlagFrames.f k l = some (fl l) := by
  unfold spec_FlagFrames.f spec_validFrames.f fl
  have := validF_l0 l hl hs l.length 0 k rfl (by omega) (by omega)
  rw [show ((0 : Nat) : Int) = 0 by rfl, List.drop_zero] at this
  rw [this, bsome]
  by_cases h : l.all okF = true ∧ l.length ≤ 4
  · rw [if_pos h, if_pos (by simp only [h.1, Bool.true_and, decide_eq_true_eq]; exact h.2)]
    unfold spec_flag.f
    have h2 := specFl_l0 l h.2 h.1 l.length 0 k FL rfl (by omega) (by simp [FL]) (by omega)
    rw [show ((0 : Nat) : Int) = 0 by rfl, List.drop_zero] at h2
    rw [bsome, flag_tb, h2]
  · rw [if_neg h, if_neg (by simp only [Bool.and_eq_true, decide_eq_true_eq]; exact h)]
    rfl
theorem implFl_l0 (l : List ByteArray) (hl : l.length ≤ 4) (hs : ∀ s ∈ l, s.size ≤ 100000000) : ∀ (d j k : Nat) (acc : List Int), l.length - j = d → j ≤ l.length → acc.length ≤ 10 + 100 * j → d + 2000 < k →
    impl_FlagFrames.l0 k (tb acc) l (l.length : Int) (j : Int) = some (if (l.drop j).all okF = true then tb (acc ++ cat (l.drop j)) else tb []) := by
  intro d
  induction d with
  | zero =>
    intro j k acc hd hj ha hk
    obtain ⟨k, rfl⟩ : ∃ m, k = m + 1 := ⟨k - 1, by omega⟩
    simp only [impl_FlagFrames.l0]
    rw [if_neg (by omega), List.drop_eq_nil_of_le (by omega)]
    simp [cat]
  | succ d ih =>
    intro j k acc hd hj ha hk
    obtain ⟨k, rfl⟩ : ∃ m, k = m + 1 := ⟨k - 1, by omega⟩
    simp only [impl_FlagFrames.l0]
    have hm := hs l[j] (List.getElem_mem (by omega))
    rw [if_pos (show (j : Int) < (l.length : Int) by omega), if_pos (show (0 : Int) ≤ (j : Int) by omega), if_pos (show (j : Int) < (l.length : Int) by omega), rdOf_nat l j (by omega), List.drop_eq_getElem_cons (show j < l.length by omega), List.all_cons]
    by_cases h0 : (l[j]).toList = ([] : List UInt8)
    · have := (toList_nil_iff l[j]).1 h0
      rw [if_pos h0, if_neg (by simp [okF, this])]
      rfl
    · have h00 : (l[j]).size ≠ 0 := fun e => h0 ((toList_nil_iff l[j]).2 e)
      rw [if_neg h0, valid_some _ (by omega), bsome]
      cases h1 : (okBits l[j] && decide ((l[j]).size ≤ 40)) with
      | false =>
        rw [if_neg (by simp), if_neg (by unfold okF; rw [h1]; simp)]
        rfl
      | true =>
        have hok : okF l[j] = true := by unfold okF; rw [h1]; simpa using h00
        have h2 := stfB hok
        rw [if_pos rfl, stuffed_some _ (by omega) h2.1 _ (by omega), bsome, flag_tb, if_pos (by rw [tb_len]; omega), if_pos (by rw [ByteArray.size_append, tb_len, tb_len, tb_len]; simp [FL]; omega), ← app_assoc, tb_app2, w64s (by omega),
          ih (j + 1) k _ (by omega) (by omega) (by simp [FL]; omega) (by omega), hok, Bool.true_and]
        generalize l[j] = s
        generalize l.drop (j + 1) = r
        simp [cat]
theorem implFl_some (l : List ByteArray) (hs : ∀ s ∈ l, s.size ≤ 100000000) (k : Nat) (hk : 3000 ≤ k) : impl_FlagFrames.f k l = some (fl l) := by
  unfold impl_FlagFrames.f fl
  by_cases h4 : (l.length : Int) > 4
  · rw [if_pos h4, if_neg (fun h => by have := h.2; omega)]; rfl
  · have h2 := implFl_l0 l (by omega) hs l.length 0 k FL rfl (by omega) (by simp [FL]) (by omega)
    rw [show ((0 : Nat) : Int) = 0 by rfl, List.drop_zero] at h2
    rw [if_neg h4, flag_tb, h2]
    by_cases h : l.all okF = true
    · rw [if_pos h, if_pos ⟨h, by omega⟩]
    · rw [if_neg h, if_neg (fun x => h x.1)]

/-! The exact laws' helpers at lists of texts. -/
theorem eqStringS_l0 (a : List ByteArray) (hn : a.length ≤ 100000000) : ∀ (d j k : Nat), a.length - j = d → j ≤ a.length → d < k → laws_eqStringS.l0 k a a (j : Int) = some true := by
  intro d
  induction d with
  | zero =>
    intro j k hd hj hk
    obtain ⟨k, rfl⟩ : ∃ m, k = m + 1 := ⟨k - 1, by omega⟩
    simp only [laws_eqStringS.l0]
    rw [if_neg (by omega)]
  | succ d ih =>
    intro j k hd hj hk
    obtain ⟨k, rfl⟩ : ∃ m, k = m + 1 := ⟨k - 1, by omega⟩
    simp only [laws_eqStringS.l0]
    rw [if_pos (by omega), if_pos (by omega), if_pos (by omega), if_pos trivial, w64s (by omega)]
    exact ih (j + 1) k (by omega) (by omega) (by omega)
theorem eqStringS_some (a : List ByteArray) (hn : a.length ≤ 100000000) (k : Nat) (hk : a.length < k) : laws_eqStringS.f k a a = some true := by
  unfold laws_eqStringS.f
  rw [if_pos rfl]
  exact eqStringS_l0 a hn a.length 0 k rfl (by omega) hk
theorem markText_l0 : ∀ (d : Nat) (n : Int) (acc : ByteArray), 0 ≤ n → n < 10 ^ d → n ≤ 1000000000000 → acc.size + d ≤ 1000 → ∃ t, ∀ k, d < k → laws_markText.l0 k n acc = some t := by
  intro d
  induction d with
  | zero =>
    intro n acc h0 hn hb ha
    refine ⟨(⟨#[109]⟩ : ByteArray) ++ acc, fun k hk => ?_⟩
    obtain ⟨k, rfl⟩ : ∃ m, k = m + 1 := ⟨k - 1, by omega⟩
    simp only [laws_markText.l0]
    rw [if_neg (by simp at hn; omega), if_pos (by omega)]
  | succ d ih =>
    intro n acc h0 hn hb ha
    by_cases hz : n > 0
    · have e1 : Int.tdiv n 10 = n / 10 := Int.tdiv_eq_ediv_of_nonneg h0
      have e2 : 10 ^ (d + 1) = (10 : Int) ^ d * 10 := Int.pow_succ ..
      obtain ⟨t, ht⟩ := ih (n / 10) (strOfNums [(wrap64 (48 + (Int.tmod n 10))) % 256] ++ acc) (by omega) (by rw [e2] at hn; omega) (by omega) (by rw [ByteArray.size_append, strOfNums_size]; simp; omega)
      refine ⟨t, fun k hk => ?_⟩
      obtain ⟨k, rfl⟩ : ∃ m, k = m + 1 := ⟨k - 1, by omega⟩
      simp only [laws_markText.l0]
      rw [if_pos hz, bsome, if_pos (by rw [strOfNums_size]; simp; omega), e1, w64 (by omega) (by omega), ht k (by omega)]
    · refine ⟨(⟨#[109]⟩ : ByteArray) ++ acc, fun k hk => ?_⟩
      obtain ⟨k, rfl⟩ : ∃ m, k = m + 1 := ⟨k - 1, by omega⟩
      simp only [laws_markText.l0]
      rw [if_neg hz, if_pos (by omega)]
def mtx (n : Int) : ByteArray := (laws_markText.f 100 n).getD ByteArray.empty
theorem markText_some (n : Int) (h0 : 0 ≤ n) (hn : n ≤ 1000000000) (k : Nat) (hk : 50 ≤ k) : laws_markText.f k n = some (mtx n) := by
  unfold mtx laws_markText.f
  by_cases hz : n ≤ 0
  · rw [if_pos hz, if_pos hz]; rfl
  · rw [if_neg hz, if_neg hz]
    obtain ⟨t, ht⟩ := markText_l0 12 n (⟨#[]⟩ : ByteArray) h0 (by omega) (by omega) (by decide)
    rw [ht k (by omega), ht 100 (by omega)]
    rfl
def marks (m : Int) : Nat → List ByteArray
  | 0 => []
  | n + 1 => mtx m :: marks (m + 1) n
theorem marks_len : ∀ (n : Nat) (m : Int), (marks m n).length = n
  | 0, _ => rfl
  | n + 1, m => by simp [marks, marks_len n]
theorem markStringS_l0 : ∀ (d j k : Nat) (l : List ByteArray) (m : Int), l.length - j = d → j ≤ l.length → l.length ≤ 1000000 → 0 ≤ m → m + d ≤ 1000000 → d + 60 < k →
    laws_markStringS.l0 k l m (j : Int) = some (m + d, l.take j ++ marks m d) := by
  intro d
  induction d with
  | zero =>
    intro j k l m hd hj hn h0 hm hk
    obtain ⟨k, rfl⟩ : ∃ m, k = m + 1 := ⟨k - 1, by omega⟩
    simp only [laws_markStringS.l0]
    rw [if_neg (by omega), List.take_of_length_le (by omega)]
    simp [marks]
  | succ d ih =>
    intro j k l m hd hj hn h0 hm hk
    obtain ⟨k, rfl⟩ : ∃ m, k = m + 1 := ⟨k - 1, by omega⟩
    simp only [laws_markStringS.l0]
    rw [if_pos (by omega), markText_some m h0 (by omega) k (by omega), bsome, if_pos (by omega), w64s (by omega), w64 (n := m + 1) (by omega) (by omega), Int.toNat_natCast,
      ih (j + 1) k _ (m + 1) (by simp; omega) (by simp; omega) (by simpa using hn) (by omega) (by omega) (by omega)]
    have e : (l.set j (mtx m)).take (j + 1) = l.take j ++ [mtx m] := by
      rw [List.take_add_one, List.take_set_of_le (by omega)]
      simp [show j < l.length by omega]
    rw [e, marks]
    simp only [Option.some.injEq, Prod.mk.injEq, List.append_assoc, List.singleton_append, and_true]
    omega
theorem marks_get : ∀ (n : Nat) (m : Int) (j : Nat) (h : j < (marks m n).length), (marks m n)[j] = mtx (m + j)
  | 0, m, j, h => by simp [marks] at h
  | n + 1, m, 0, h => by simp [marks]
  | n + 1, m, j + 1, h => by
    simp only [marks, List.getElem_cons_succ]
    rw [marks_get n (m + 1) j]
    congr 1
    omega
theorem heldStringS_l0 (n : Nat) (m : Int) (hn : n ≤ 100000) (h0 : 0 ≤ m) (hm : m ≤ 100000) : ∀ (d j k : Nat), n - j = d → j ≤ n → d + 60 < k → laws_heldStringS.l0 k (marks m n) (m + j) (j : Int) = some (m + n) := by
  intro d
  induction d with
  | zero =>
    intro j k hd hj hk
    obtain ⟨k, rfl⟩ : ∃ m, k = m + 1 := ⟨k - 1, by omega⟩
    simp only [laws_heldStringS.l0]
    rw [marks_len, if_neg (by omega), show j = n by omega]
  | succ d ih =>
    intro j k hd hj hk
    obtain ⟨k, rfl⟩ : ∃ m, k = m + 1 := ⟨k - 1, by omega⟩
    simp only [laws_heldStringS.l0]
    rw [marks_len, if_pos (by omega), if_pos (by omega), markText_some (m + j) (by omega) (by omega) k (by omega), bsome, rdOf_nat _ j (by rw [marks_len]; omega), marks_get, if_pos rfl, w64s (by omega), w64 (by omega) (by omega),
      show m + (j : Int) + 1 = m + ((j + 1 : Nat) : Int) by omega]
    exact ih (j + 1) k (by omega) (by omega) (by omega)

/-! FlagFrames of any texts. -/
theorem validF2_l0 (l : List ByteArray) (hl : l.length ≤ 100000000) (M : Nat) (hM : M ≤ 100000000) (hs : ∀ s ∈ l, s.size ≤ M) : ∀ (d j k : Nat), l.length - j = d → j ≤ l.length → d + M + 10 < k → spec_validFrames.l0 k l (j : Int) = some ((l.drop j).all okF && decide (l.length ≤ 4)) := by
  intro d
  induction d with
  | zero =>
    intro j k hd hj hk
    obtain ⟨k, rfl⟩ : ∃ m, k = m + 1 := ⟨k - 1, by omega⟩
    simp only [spec_validFrames.l0]
    rw [if_neg (by omega), List.drop_eq_nil_of_le (by omega)]
    simp only [List.all_nil, Bool.true_and, Option.some.injEq, decide_eq_decide]
    omega
  | succ d ih =>
    intro j k hd hj hk
    obtain ⟨k, rfl⟩ : ∃ m, k = m + 1 := ⟨k - 1, by omega⟩
    simp only [spec_validFrames.l0]
    have hm := hs l[j] (List.getElem_mem (by omega))
    rw [if_pos (by omega), if_pos (by omega), rdOf_nat l j (by omega), validBits_some _ (by omega) _ (by omega), bsome, w64s (by omega), ih (j + 1) k (by omega) (by omega) (by omega), List.drop_eq_getElem_cons (show j < l.length by omega), List.all_cons]
    generalize l[j] = s
    unfold okF
    cases h1 : (okBits s && decide (s.size ≤ 40)) with
    | false => rw [if_neg (by simp)]; simp
    | true =>
      rw [if_pos rfl]
      by_cases h0 : s.toList = ([] : List UInt8)
      · rw [if_pos h0]
        have := (toList_nil_iff s).1 h0
        simp [this]
      · rw [if_neg h0]
        have : s.size ≠ 0 := fun e => h0 ((toList_nil_iff s).2 e)
        simp [this]
theorem specFl2_some (l : List ByteArray) (hl : l.length ≤ 100000000) (M : Nat) (hM : M ≤ 100000000) (hs : ∀ s ∈ l, s.size ≤ M) (k : Nat) (hk : l.length + M + 5000 ≤ k) : spec_FlagFrames.f k l = some (fl l) := by
  unfold spec_FlagFrames.f spec_validFrames.f fl
  have := validF2_l0 l hl M hM hs l.length 0 k rfl (by omega) (by omega)
  rw [show ((0 : Nat) : Int) = 0 by rfl, List.drop_zero] at this
  rw [this, bsome]
  by_cases h : l.all okF = true ∧ l.length ≤ 4
  · rw [if_pos h, if_pos (by simp only [h.1, Bool.true_and, decide_eq_true_eq]; exact h.2)]
    unfold spec_flag.f
    have h2 := specFl_l0 l h.2 h.1 l.length 0 k FL rfl (by omega) (by simp [FL]) (by omega)
    rw [show ((0 : Nat) : Int) = 0 by rfl, List.drop_zero] at h2
    rw [bsome, flag_tb, h2]
  · rw [if_neg h, if_neg (by simp only [Bool.and_eq_true, decide_eq_true_eq]; exact h)]
    rfl
theorem szS_l0 (l : List ByteArray) (hl : l.length ≤ 100000000) (hs : ∀ s ∈ l, s.size ≤ 9223372036854775807) : ∀ (d j k : Nat) (left : Int), l.length - j = d → j ≤ l.length → 0 ≤ left → left ≤ 1048576 → d < k →
    ∃ r, laws_szStringS.l0 k l left (j : Int) = some r ∧ (r < 0 ∨ ∀ s ∈ l.drop j, (s.size : Int) ≤ left) := by
  intro d
  induction d with
  | zero =>
    intro j k left hd hj h0 h1 hk
    obtain ⟨k, rfl⟩ : ∃ m, k = m + 1 := ⟨k - 1, by omega⟩
    simp only [laws_szStringS.l0]
    rw [if_neg (by omega), List.drop_eq_nil_of_le (by omega)]
    exact ⟨_, rfl, Or.inr (by simp)⟩
  | succ d ih =>
    intro j k left hd hj h0 h1 hk
    obtain ⟨k, rfl⟩ : ∃ m, k = m + 1 := ⟨k - 1, by omega⟩
    simp only [laws_szStringS.l0]
    have hm := hs l[j] (List.getElem_mem (by omega))
    rw [if_pos (by omega), if_pos (by omega), rdOf_nat l j (by omega), w64 (n := left - ((l[j]).size : Int)) (by omega) (by omega), w64s (by omega)]
    by_cases hn : left - ((l[j]).size : Int) < 0
    · rw [if_pos hn]
      exact ⟨_, rfl, Or.inl (by decide)⟩
    · rw [if_neg hn]
      obtain ⟨r, h2, h3⟩ := ih (j + 1) k (left - ((l[j]).size : Int)) (by omega) (by omega) (by omega) (by omega) (by omega)
      refine ⟨r, h2, ?_⟩
      rcases h3 with h3 | h3
      · exact Or.inl h3
      · refine Or.inr ?_
        rw [List.drop_eq_getElem_cons (show j < l.length by omega)]
        intro s hs2
        rcases List.mem_cons.1 hs2 with rfl | hs2
        · omega
        · have := h3 s hs2
          omega
theorem szS_some (l : List ByteArray) (hl : l.length ≤ 9223372036854775807) (hs : ∀ s ∈ l, s.size ≤ 9223372036854775807) : ∃ r, (∀ k, 2000000 ≤ k → laws_szStringS.f k l 1048576 = some r) ∧ (r < 0 ∨ (l.length ≤ 1048576 ∧ ∀ s ∈ l, s.size ≤ 1048576)) := by
  unfold laws_szStringS.f
  rw [w64 (n := 1048576 - (l.length : Int)) (by omega) (by omega)]
  by_cases hn : 1048576 - (l.length : Int) < 0
  · exact ⟨-1, fun k _ => by rw [if_pos hn], Or.inl (by decide)⟩
  · obtain ⟨r, h2, h3⟩ := szS_l0 l (by omega) hs l.length 0 1999999 (1048576 - (l.length : Int)) rfl (by omega) (by omega) (by omega) (by omega)
    rw [show ((0 : Nat) : Int) = 0 by rfl] at h2
    refine ⟨r, fun k hk => ?_, ?_⟩
    · rw [if_neg hn]
      obtain ⟨r2, g2, _⟩ := szS_l0 l (by omega) hs l.length 0 k (1048576 - (l.length : Int)) rfl (by omega) (by omega) (by omega) (by omega)
      rw [show ((0 : Nat) : Int) = 0 by rfl] at g2
      have hmono : ∀ d n x, laws_szStringS.l0 n l (1048576 - (l.length : Int)) 0 = some x → laws_szStringS.l0 (n + d) l (1048576 - (l.length : Int)) 0 = some x := by
        intro d
        induction d with
        | zero => intro n x h; exact h
        | succ d ih => intro n x h; exact (laws_szStringS.mono_l (n + d)) l _ _ x (ih n x h)
      have := hmono (k - 1999999) 1999999 r h2
      rwa [show 1999999 + (k - 1999999) = k by omega] at this
    · rcases h3 with h3 | h3
      · exact Or.inl h3
      · rw [List.drop_zero] at h3
        exact Or.inr ⟨by omega, fun s hs2 => by have := h3 s hs2; omega⟩
theorem toS_l0 (l : List ByteArray) (hl : l.length ≤ 100000000) : ∀ (d j k : Nat) (x : List ByteArray), l.length - j = d → j ≤ l.length → x.length = l.length → x.take j = l.take j → d < k → laws_toStringS.l0 k l x (j : Int) = some l := by
  intro d
  induction d with
  | zero =>
    intro j k x hd hj hx ht hk
    obtain ⟨k, rfl⟩ : ∃ m, k = m + 1 := ⟨k - 1, by omega⟩
    simp only [laws_toStringS.l0]
    rw [if_neg (by omega)]
    rw [List.take_of_length_le (by omega), List.take_of_length_le (by omega)] at ht
    rw [ht]
  | succ d ih =>
    intro j k x hd hj hx ht hk
    obtain ⟨k, rfl⟩ : ∃ m, k = m + 1 := ⟨k - 1, by omega⟩
    simp only [laws_toStringS.l0]
    rw [if_pos (by omega), if_pos (by omega), if_pos (by omega), rdOf_nat l j (by omega), w64s (by omega), Int.toNat_natCast]
    refine ih (j + 1) k _ (by omega) (by omega) (by simp; exact hx) ?_ (by omega)
    rw [List.take_add_one, List.take_add_one, List.take_set_of_le (by omega), ht]
    simp [show j < x.length by omega, show j < l.length by omega]
theorem toS_some (l : List ByteArray) (hl : l.length ≤ 1048576) (k : Nat) (hk : 2000000 ≤ k) : laws_toStringS.f k l = some l := by
  unfold laws_toStringS.f
  rw [if_pos (by omega), Int.toNat_natCast, if_pos (by omega)]
  have := toS_l0 l (by omega) l.length 0 k (List.replicate l.length (⟨#[]⟩ : ByteArray)) rfl (by omega) (by simp) (by simp) (by omega)
  exact this
theorem flag_pure (l : List ByteArray) (hl : l.length ≤ 9223372036854775807) (hs : ∀ s ∈ l, s.size ≤ 9223372036854775807) : ∃ k, laws_FnExactFlagFrames.f k l = some true := by
  refine ⟨4000000, ?_⟩
  unfold laws_FnExactFlagFrames.f
  obtain ⟨r, h1, h2⟩ := szS_some l hl hs
  rw [h1 _ (by omega), bsome]
  by_cases hr : r < 0
  · rw [if_pos hr]
  · rw [if_neg hr]
    obtain ⟨g1, g2⟩ := h2.resolve_left hr
    rw [toS_some l g1 _ (by omega), bsome, specFl2_some l (by omega) 1048576 (by omega) g2 _ (by omega), bsome, bsome, implFl_some l (fun s hs2 => by have := g2 s hs2; omega) _ (by omega), bsome, if_pos rfl, bsome, eqStringS_some l (by omega) _ (by omega), bsome, if_pos rfl]
/-- What is known of a row of texts that comes in. -/
def IsStrs (w : World) (a : Option Addr) (len cap : Nat) (zs : List ByteArray) : Prop :=
  (a = none ∧ len = 0 ∧ cap = 0 ∧ zs = []) ∨
  ∃ x, a = some x ∧ len ≤ cap ∧ cap ≤ maxLen ∧ zs.length = cap ∧ (∀ i, i < zs.length → w.cell? (x.add i) = some (.string (zs.getD i ByteArray.empty))) ∧ ∀ s ∈ zs, s.size ≤ maxLen
theorem strs_reads {w : World} {a : Option Addr} {len cap : Nat} {zs : List ByteArray} (h : IsStrs w a len cap zs) : ∃ l : List ByteArray, l.length = len ∧ len ≤ cap ∧ len ≤ 9223372036854775807 ∧ (∀ s ∈ l, s.size ≤ 9223372036854775807) ∧ Kd.C Kd.string w a len l := by
  rcases h with ⟨rfl, rfl, rfl, rfl⟩ | ⟨x, rfl, h1, h2, h3, h4, h5⟩
  · exact ⟨[], rfl, Nat.le_refl _, by omega, by simp, ⟨rfl, by omega, fun h => absurd h (by omega)⟩⟩
  · have h2' : cap ≤ 9223372036854775807 := by simpa [maxLen] using h2
    refine ⟨zs.take len, by rw [List.length_take]; omega, h1, by omega, fun s hs => by simpa [maxLen] using h5 s (List.mem_of_mem_take hs), ⟨by rw [List.length_take]; omega, by omega, fun _ => ⟨x, rfl, fun j p hp => ?_⟩⟩⟩
    have hj : j < len := by
      have := (List.getElem?_eq_some_iff.1 hp).1
      rw [List.length_take] at this
      omega
    rw [List.getElem?_take_of_lt hj] at hp
    refine ⟨[.string p], rfl, rfl, fun i u hu => ?_⟩
    have hi : i = 0 := by
      have := (List.getElem?_eq_some_iff.1 hu).1
      simp at this
      omega
    subst hi
    simp at hu
    subst hu
    have e : j * Kd.string.sz + 0 = j := by show j * 1 + 0 = j; omega
    rw [e, h4 j (by omega), List.getD_eq_getElem?_getD, hp]
    rfl
theorem flag_walk {w : World} {a : Option Addr} {len cap : Nat} {zs : List ByteArray} (h : IsStrs w a len cap zs) : Calls Tryd.prog 9 #[.slice a len cap] w fun e w' => e = .returned (.bool true) ∧ Below w.heap.size w w' := by
  obtain ⟨l, rfl, h1, h2, h3, h4⟩ := strs_reads h
  obtain ⟨k, hk⟩ := flag_pure l h2 h3
  exact laws_FnExactFlagFrames.calls k a cap l true w h4 h1 hk

end Go.Proofs.YtbgchgjefohpoaaDoor.Pure
