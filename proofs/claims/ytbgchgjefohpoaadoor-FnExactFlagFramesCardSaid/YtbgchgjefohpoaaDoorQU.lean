/- What is unstuffed. -/
import Derived.Test.YtbgchgjefohpoaaDoorPx5
import Derived.Test.YtbgchgjefohpoaaDoorPx6
import Derived.Test.YtbgchgjefohpoaaDoorPx7
import Derived.Test.YtbgchgjefohpoaaDoorQB
namespace Go.Proofs.YtbgchgjefohpoaaDoor.Pure
open Go.RowKit Go.Proofs.YtbgchgjefohpoaaDoor.P Go.Proofs.YtbgchgjefohpoaaDoorW.PrintWords Go.Proofs.YtbgchgjefohpoaaDoorW.PrintLast
set_option linter.unusedVariables false
set_option linter.unusedSimpArgs false

/-! Unstuffed bits: both programs. -/
def uok (s : ByteArray) : Prop := s.size ≤ 48 ∧ okBits s = true ∧ (uim 0 (bl s)).length ≤ 40 ∧ stf 0 (uim 0 (bl s)) = bl s
instance (s : ByteArray) : Decidable (uok s) := by unfold uok; infer_instance
def uout (s : ByteArray) : ByteArray × Bool := if uok s then (tb (uim 0 (bl s)), true) else (tb [], false)
theorem bits_byte {l : List Int} (h : l.all isBit = true) : ∀ x ∈ l, 0 ≤ x ∧ x ≤ 255 := by
  intro x hx
  have := (isBit_iff x).1 (List.all_eq_true.1 h x hx)
  omega
theorem bl_tb_bits {l : List Int} (h : l.all isBit = true) : bl (tb l) = l := bl_tb l (bits_byte h)
theorem okBits_tb {l : List Int} (h : l.all isBit = true) : okBits (tb l) = true := by unfold okBits; rw [bl_tb_bits h]; exact h
def finU (s o : ByteArray) : ByteArray × Bool := if o.size ≤ 40 ∧ tb (stf 0 (bl o)) = s then (o, true) else (tb [], false)
theorem implU_l0 (s : ByteArray) (hs : s.size ≤ 1000) (hb : okBits s = true) : ∀ (d j k : Nat) (acc : List Int) (n : Int), s.size - j = d → j ≤ s.size → acc.length ≤ j → acc.all isBit = true → 0 ≤ n → n ≤ 5 → d + 2000 < k →
    impl_UnstuffBits.l0 k s (tb acc) n (j : Int) = some (finU s (tb (acc ++ uim n ((bl s).drop j)))) := by
  intro d
  induction d with
  | zero =>
    intro j k acc n hd hj ha hab h0 h1 hk
    obtain ⟨k, rfl⟩ : ∃ m, k = m + 1 := ⟨k - 1, by omega⟩
    simp only [impl_UnstuffBits.l0]
    rw [if_neg (by omega), List.drop_eq_nil_of_le (by rw [bl_len]; omega), uim, List.append_nil, valid_some _ (by rw [tb_len]; omega), bsome, okBits_tb hab, Bool.true_and]
    unfold finU
    by_cases h4 : (tb acc).size ≤ 40
    · rw [if_pos (by simpa using h4), stuffed_some _ (by omega) (okBits_tb hab) _ (by omega), bsome]
      by_cases he : tb (stf 0 (bl (tb acc))) = s
      · rw [if_pos ((toList_eq_iff _ _).2 he), if_pos ⟨h4, he⟩]
      · rw [if_neg (fun h => he ((toList_eq_iff _ _).1 h)), if_neg (fun h => he h.2)]; rfl
    · rw [if_neg (by simpa using h4), if_neg (fun h => h4 h.1)]; rfl
  | succ d ih =>
    intro j k acc n hd hj ha hab h0 h1 hk
    obtain ⟨k, rfl⟩ : ∃ m, k = m + 1 := ⟨k - 1, by omega⟩
    simp only [impl_UnstuffBits.l0]
    rw [if_pos (by omega), w64s (by omega), bl_drop s j (by omega), uim]
    have hc := bits_at s hb j (by omega)
    by_cases h5 : n = 5
    · rw [if_pos h5, if_pos h5, ih (j + 1) k acc 0 (by omega) (by omega) (by omega) hab (by omega) (by omega) (by omega)]
    · rw [if_neg h5, if_neg h5, if_pos (by omega), if_pos (by omega), if_pos (by omega), Int.toNat_natCast, Int.toNat_natCast, extract_one s j (by omega), size_tb1, tb_len, if_pos (by omega),
        w64 (n := n + 1) (by omega) (by omega), ← tb_append]
      generalize bt s (j : Int) = c at hc ⊢
      have hcb : (acc ++ [c]).all isBit = true := by
        rw [List.all_append, hab]
        simp [(isBit_iff c).2 hc]
      by_cases h49 : c = 49
      · subst h49
        rw [show wrap64 ((n + 1) * ((49 - 48) % 256)) = n + 1 by rw [show ((49 : Int) - 48) % 256 = 1 by rfl, Int.mul_one]; exact w64 (by omega) (by omega), if_pos rfl,
          ih (j + 1) k _ (n + 1) (by omega) (by omega) (by simp; omega) hcb (by omega) (by omega) (by omega), List.append_assoc]
        rfl
      · have h48 : c = 48 := by omega
        subst h48
        rw [show wrap64 ((n + 1) * ((48 - 48) % 256)) = 0 by rw [show ((48 : Int) - 48) % 256 = 0 by rfl, Int.mul_zero]; exact w64 (by omega) (by omega), if_neg h49,
          ih (j + 1) k _ 0 (by omega) (by omega) (by simp; omega) hcb (by omega) (by omega) (by omega), List.append_assoc]
        rfl
theorem fin_eq (s : ByteArray) (hs : s.size ≤ 48) (hb : okBits s = true) : finU s (tb (uim 0 (bl s))) = uout s := by
  unfold finU uout
  have hu := uim_bits (bl s) 0 hb
  by_cases h : uok s
  · rw [if_pos h, if_pos ⟨by rw [tb_len]; exact h.2.2.1, by rw [bl_tb_bits hu, h.2.2.2, tb_bl]⟩]
  · rw [if_neg h, if_neg]
    rintro ⟨h1, h2⟩
    refine h ⟨hs, hb, by rw [tb_len] at h1; exact h1, ?_⟩
    rw [bl_tb_bits hu] at h2
    have h3 := congrArg bl h2
    rw [bl_tb_bits (stf_bits _ _ hu)] at h3
    exact h3
theorem implU_some (s : ByteArray) (hs : s.size ≤ 1000000000) (k : Nat) (hk : 3000 ≤ k) : impl_UnstuffBits.f k s = some (uout s) := by
  obtain ⟨k, rfl⟩ : ∃ m, k = m + 1 := ⟨k - 1, by omega⟩
  unfold impl_UnstuffBits.f
  by_cases h : (s.size : Int) > 48
  · rw [if_pos h]
    simp only [impl_UnstuffBits.j0, if_true]
    unfold uout
    rw [if_neg (fun x => by have := x.1; omega)]; rfl
  · rw [if_neg h, bitsAlone_some s hs, bsome]
    cases hb : okBits s with
    | false =>
      simp only [Bool.not_false, impl_UnstuffBits.j0, if_true]
      unfold uout
      rw [if_neg (fun x => by have := x.2.1; rw [hb] at this; cases this)]; rfl
    | true =>
      simp only [Bool.not_true, impl_UnstuffBits.j0, Bool.false_eq_true, if_false]
      have := implU_l0 s (by omega) hb s.size 0 k [] 0 (by omega) (by omega) (by simp) rfl (by omega) (by omega) (by omega)
      rw [show ((0 : Nat) : Int) = 0 by rfl, List.drop_zero, List.nil_append] at this
      rw [nil_tb, this, fin_eq s (by omega) hb]
theorem unstuff_l0 (s : ByteArray) (hs : s.size ≤ 1000) : ∀ (d j k : Nat) (acc : ByteArray) (n : Int), s.size - j = d → j ≤ s.size → acc.size ≤ j → 0 ≤ n → n ≤ 5 → d < k →
    (usp n ((bl s).drop j) = none → ∃ x, spec_unstuff.l0 k s acc n (j : Int) = some (x, false)) ∧ (∀ o, usp n ((bl s).drop j) = some o → spec_unstuff.l0 k s acc n (j : Int) = some (acc ++ tb o, true)) := by
  intro d
  induction d with
  | zero =>
    intro j k acc n hd hj ha h0 h1 hk
    obtain ⟨k, rfl⟩ : ∃ m, k = m + 1 := ⟨k - 1, by omega⟩
    simp only [spec_unstuff.l0]
    rw [if_neg (by omega), List.drop_eq_nil_of_le (by rw [bl_len]; omega), usp]
    constructor
    · intro h
      split at h
      · cases h
      · exact ⟨acc, by rw [decide_eq_false ‹_›]⟩
    · intro o h
      split at h
      · cases h
        rw [decide_eq_true ‹_›, app_nil]
      · cases h
  | succ d ih =>
    intro j k acc n hd hj ha h0 h1 hk
    obtain ⟨k, rfl⟩ : ∃ m, k = m + 1 := ⟨k - 1, by omega⟩
    simp only [spec_unstuff.l0]
    rw [if_pos (by omega), w64s (by omega), bl_drop s j (by omega), usp]
    by_cases h5 : n = 5
    · rw [if_pos h5, if_pos h5]
      by_cases hc : bt s (j : Int) = 49
      · rw [if_pos hc, if_pos (show (0 : Int) ≤ (j : Int) by omega), if_pos hc]
        exact ⟨fun _ => ⟨_, rfl⟩, fun o h => by cases h⟩
      · rw [if_neg hc, if_pos (show (0 : Int) ≤ (j : Int) by omega), if_neg hc]
        exact ih (j + 1) k acc 0 (by omega) (by omega) (by omega) (by omega) (by omega) (by omega)
    · rw [if_neg h5, if_neg h5, if_pos (show (0 : Int) ≤ (j : Int) by omega), if_pos (show (j : Int) ≤ ((j + 1 : Nat) : Int) by omega), if_pos (show ((j + 1 : Nat) : Int) ≤ (s.size : Int) by omega),
        Int.toNat_natCast, Int.toNat_natCast, extract_one s j (by omega), size_tb1, if_pos (show acc.size + 1 ≤ 9223372036854775807 by omega), w64 (n := n + 1) (by omega) (by omega)]
      have key : ∀ m : Int, 0 ≤ m → m ≤ 5 → (Option.map (bt s (j : Int) :: ·) (usp m ((bl s).drop (j + 1))) = none → ∃ x, spec_unstuff.l0 k s (acc ++ tb [bt s (j : Int)]) m ((j + 1 : Nat) : Int) = some (x, false)) ∧
          (∀ o, Option.map (bt s (j : Int) :: ·) (usp m ((bl s).drop (j + 1))) = some o → spec_unstuff.l0 k s (acc ++ tb [bt s (j : Int)]) m ((j + 1 : Nat) : Int) = some (acc ++ tb o, true)) := by
        intro m m0 m5
        obtain ⟨i1, i2⟩ := ih (j + 1) k (acc ++ tb [bt s (j : Int)]) m (by omega) (by omega) (by rw [size_app1]; omega) m0 m5 (by omega)
        constructor
        · intro h
          exact i1 (by simpa using h)
        · intro o h
          obtain ⟨q, hq, rfl⟩ := Option.map_eq_some_iff.1 h
          rw [i2 q hq, glue1]
      by_cases hc : bt s (j : Int) = 49
      · rw [if_pos hc, if_pos hc]; exact key (n + 1) (by omega) (by omega)
      · rw [if_neg hc, if_neg hc]; exact key 0 (by omega) (by omega)
theorem specU_l0 (s : ByteArray) (hs : s.size ≤ 48) : ∀ (d j k : Nat), s.size - j = d → j ≤ s.size → d + 2000 < k →
    spec_UnstuffBits.l0 k s (j : Int) = if ((bl s).drop j).all isBit = true then spec_UnstuffBits.l0 (k - d) s (s.size : Int) else some (tb [], false) := by
  intro d
  induction d with
  | zero =>
    intro j k hd hj hk
    have : j = s.size := by omega
    subst this
    rw [List.drop_eq_nil_of_le (by rw [bl_len]; omega), if_pos (show ([] : List Int).all isBit = true from rfl), Nat.sub_zero]
  | succ d ih =>
    intro j k hd hj hk
    obtain ⟨k, rfl⟩ : ∃ m, k = m + 1 := ⟨k - 1, by omega⟩
    conv => lhs; simp only [spec_UnstuffBits.l0]
    rw [if_pos (by omega), if_pos (by omega), w64s (by omega), ih (j + 1) k (by omega) (by omega) (by omega), bl_drop s j (by omega), List.all_cons, show k + 1 - (d + 1) = k - d by omega]
    generalize bt s (j : Int) = c
    by_cases h1 : c = 48
    · rw [if_pos h1]; simp [isBit, h1]
    · rw [if_neg h1]
      by_cases h2 : c = 49
      · rw [if_pos h2]; simp [isBit, h2]
      · rw [if_neg h2]; simp [isBit, h1, h2]; rfl
theorem specU_some (s : ByteArray) (k : Nat) (hk : 3000 ≤ k) : spec_UnstuffBits.f k s = some (uout s) := by
  unfold spec_UnstuffBits.f
  by_cases h : (s.size : Int) > 48
  · rw [if_pos h]
    unfold uout
    rw [if_neg (fun x => by have := x.1; omega)]; rfl
  · rw [if_neg h]
    have h0 := specU_l0 s (by omega) s.size 0 k (by omega) (by omega) (by omega)
    rw [show ((0 : Nat) : Int) = 0 by rfl, List.drop_zero] at h0
    rw [h0]
    by_cases hb : (bl s).all isBit = true
    · rw [if_pos hb]
      obtain ⟨m, hm⟩ : ∃ m, k - s.size = m + 1 := ⟨k - s.size - 1, by omega⟩
      rw [hm]
      simp only [spec_UnstuffBits.l0]
      rw [if_neg (by omega)]
      obtain ⟨g1, g2⟩ := unstuff_l0 s (by omega) s.size 0 m (⟨#[]⟩ : ByteArray) 0 (by omega) (by omega) (by simp [ByteArray.size]) (by omega) (by omega) (by omega)
      rw [List.drop_zero, show ((0 : Nat) : Int) = 0 by rfl, usp_eq (bl s).length (bl s) 0 (Nat.le_refl _) hb (by omega) (by omega)] at g1 g2
      unfold spec_unstuff.f
      by_cases he : stf 0 (uim 0 (bl s)) = bl s
      · rw [if_pos he] at g2
        rw [g2 _ rfl, bsome]
        simp only [if_true]
        have hul := uim_len (bl s) 0
        rw [bl_len] at hul
        rw [nil_tb, nil_app, validBits_some _ (by rw [tb_len]; omega) _ (by rw [tb_len]; omega), bsome, okBits_tb (uim_bits _ _ hb), Bool.true_and, tb_len]
        unfold uout
        by_cases h4 : (uim 0 (bl s)).length ≤ 40
        · rw [if_pos (by simpa using h4), if_pos ⟨by omega, hb, h4, he⟩]
        · rw [if_neg (by simpa using h4), if_neg (fun x => h4 x.2.2.1)]
      · rw [if_neg he] at g1
        obtain ⟨x, hx⟩ := g1 rfl
        rw [hx, bsome]
        simp only [Bool.false_eq_true, if_false]
        unfold uout
        rw [if_neg (fun x => he x.2.2.2)]; rfl
    · rw [if_neg hb]
      unfold uout
      rw [if_neg (fun x => hb x.2.1)]

end Go.Proofs.YtbgchgjefohpoaaDoor.Pure
