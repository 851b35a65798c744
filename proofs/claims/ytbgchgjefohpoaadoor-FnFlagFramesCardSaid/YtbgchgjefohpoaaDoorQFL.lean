/- Frames: what the laws ask. -/
import Derived.Test.YtbgchgjefohpoaaDoorPx10
import Derived.Test.YtbgchgjefohpoaaDoorPx12
import Derived.Test.YtbgchgjefohpoaaDoorPx22
import Derived.Test.YtbgchgjefohpoaaDoorPx29
import Derived.Test.YtbgchgjefohpoaaDoorPx30
import Derived.Test.YtbgchgjefohpoaaDoorPx9
import Derived.Test.YtbgchgjefohpoaaDoorQF
import Derived.Test.YtbgchgjefohpoaaDoorQD
namespace Go.Proofs.YtbgchgjefohpoaaDoor.Pure
open Go.RowKit Go.Proofs.YtbgchgjefohpoaaDoor.P Go.Proofs.YtbgchgjefohpoaaDoorW.PrintWords Go.Proofs.YtbgchgjefohpoaaDoorW.PrintLast
set_option linter.unusedVariables false
set_option linter.unusedSimpArgs false

theorem uout_sout (s : ByteArray) (hb : okBits s = true) (h4 : s.size ≤ 40) : uout (tb (stf 0 (bl s))) = (s, true) := by
  have h0 : (bl s).all isBit = true := hb
  have h1 := stf_bits (bl s) 0 h0
  have h2 := uim_stf (bl s) 0 h0 (by omega) (by omega)
  have h3 := stf_len (bl s) 0 (by omega) (by omega)
  rw [bl_len] at h3
  have e : bl (tb (stf 0 (bl s))) = stf 0 (bl s) := bl_tb_bits h1
  unfold uout
  rw [e, h2, if_pos, tb_bl]
  refine ⟨by rw [tb_len]; omega, okBits_tb h1, ?_, ?_⟩
  · rw [e, h2, bl_len]; exact h4
  · rw [e, h2]

/-! Frames: what the laws ask. -/
theorem eqTexts_l0 (a : List ByteArray) (hn : a.length ≤ 1000000) : ∀ (d j k : Nat), a.length - j = d → j ≤ a.length → d < k → laws_equalTexts.l0 k a a (j : Int) = some true := by
  intro d
  induction d with
  | zero =>
    intro j k hd hj hk
    obtain ⟨k, rfl⟩ : ∃ m, k = m + 1 := ⟨k - 1, by omega⟩
    simp only [laws_equalTexts.l0]
    rw [if_neg (by omega)]
  | succ d ih =>
    intro j k hd hj hk
    obtain ⟨k, rfl⟩ : ∃ m, k = m + 1 := ⟨k - 1, by omega⟩
    simp only [laws_equalTexts.l0]
    rw [if_pos (by omega), if_pos (by omega), if_pos (by omega), if_pos trivial, w64s (by omega)]
    exact ih (j + 1) k (by omega) (by omega) (by omega)
theorem eqTexts_some (a : List ByteArray) (hn : a.length ≤ 1000000) (k : Nat) (hk : a.length < k) : laws_equalTexts.f k a a = some true := by
  unfold laws_equalTexts.f
  rw [if_pos rfl]
  exact eqTexts_l0 a hn a.length 0 k rfl (by omega) hk
theorem Gf_len (ps : List (List Int)) : (Gf ps).length ≤ ps.length := by
  unfold Gf
  rw [List.length_map]
  have := List.length_filter_le (fun p : List Int => !p.isEmpty) ps.dropLast
  rw [List.length_dropLast] at this
  omega
theorem fnd_len (s : ByteArray) : (fnd s).length ≤ 302 := by
  unfold fnd
  split
  · rename_i h
    have h1 := pcs_len FL (s.size + 1) [] (bl s)
    have h2 := Gf_len ((pcs FL (s.size + 1) [] (bl s)).tail)
    rw [List.length_tail] at h2
    omega
  · simp
/-- Frames. -/
def okF (s : ByteArray) : Bool := (okBits s && decide (s.size ≤ 40)) && decide (s.size ≠ 0)
def cat (l : List ByteArray) : List Int := l.flatMap fun s => stf 0 (bl s) ++ FL
def fl (l : List ByteArray) : ByteArray := if l.all okF = true ∧ l.length ≤ 4 then tb (FL ++ cat l) else tb []
theorem rdOf_nat (l : List ByteArray) (j : Nat) (h : j < l.length) : rdOf ByteArray.empty l (j : Int) = l[j] := by
  unfold rdOf
  rw [Int.toNat_natCast, List.getD_eq_getElem?_getD, List.getElem?_eq_getElem h]
  rfl
theorem validF_l0 (l : List ByteArray) (hl : l.length ≤ 100000) (hs : ∀ s ∈ l, s.size ≤ 10000) : ∀ (d j k : Nat), l.length - j = d → j ≤ l.length → d + 20000 < k → spec_validFrames.l0 k l (j : Int) = some ((l.drop j).all okF && decide (l.length ≤ 4)) := by
  intro d
  induction d with
  | zero =>
    intro j k hd hj hk
    obtain ⟨k, rfl⟩ : ∃ m, k = m + 1 := ⟨k - 1, by omega⟩
    simp only [spec_validFrames.l0]
    rw [if_neg (by omega), List.drop_eq_nil_of_le (by omega)]
    simp only [List.all_nil, Bool.true_and, Option.some.injEq, decide_eq_decide]
    omega
  | succ d ih =>
    intro j k hd hj hk
    obtain ⟨k, rfl⟩ : ∃ m, k = m + 1 := ⟨k - 1, by omega⟩
    simp only [spec_validFrames.l0]
    have hm := hs l[j] (List.getElem_mem (by omega))
    rw [if_pos (by omega), if_pos (by omega), rdOf_nat l j (by omega), validBits_some _ (by omega) _ (by omega), bsome, w64s (by omega), ih (j + 1) k (by omega) (by omega) (by omega), List.drop_eq_getElem_cons (show j < l.length by omega), List.all_cons]
    generalize l[j] = s
    unfold okF
    cases h1 : (okBits s && decide (s.size ≤ 40)) with
    | false => rw [if_neg (by simp)]; simp
    | true =>
      rw [if_pos rfl]
      by_cases h0 : s.toList = ([] : List UInt8)
      · rw [if_pos h0]
        have := (toList_nil_iff s).1 h0
        simp [this]
      · rw [if_neg h0]
        have : s.size ≠ 0 := fun e => h0 ((toList_nil_iff s).2 e)
        simp [this]
theorem tb_app2 (a b c : List Int) : (tb a ++ tb b) ++ tb c = tb (a ++ (b ++ c)) := by rw [tb_append, tb_append, app_assoc]
theorem stfB {s : ByteArray} (h : okF s = true) : okBits s = true ∧ s.size ≤ 40 ∧ s.size ≠ 0 ∧ (stf 0 (bl s)).length ≤ 48 := by
  unfold okF at h
  simp only [Bool.and_eq_true, decide_eq_true_eq] at h
  have := stf_len (bl s) 0 (by omega) (by omega)
  rw [bl_len] at this
  exact ⟨h.1.1, h.1.2, h.2, by omega⟩
theorem specFl_l0 (l : List ByteArray) (hl : l.length ≤ 4) (ho : l.all okF = true) : ∀ (d j k : Nat) (acc : List Int), l.length - j = d → j ≤ l.length → acc.length ≤ 10 + 100 * j → d + 2000 < k →
    spec_FlagFrames.l0 k l (tb acc) (j : Int) = some (tb (acc ++ cat (l.drop j))) := by
  intro d
  induction d with
  | zero =>
    intro j k acc hd hj ha hk
    obtain ⟨k, rfl⟩ : ∃ m, k = m + 1 := ⟨k - 1, by omega⟩
    simp only [spec_FlagFrames.l0]
    rw [if_neg (by omega), List.drop_eq_nil_of_le (by omega)]
    simp [cat]
  | succ d ih =>
    intro j k acc hd hj ha hk
    obtain ⟨k, rfl⟩ : ∃ m, k = m + 1 := ⟨k - 1, by omega⟩
    simp only [spec_FlagFrames.l0]
    have h1 := stfB (List.all_eq_true.1 ho l[j] (List.getElem_mem (by omega)))
    rw [if_pos (by omega), if_pos (by omega), rdOf_nat l j (by omega), stuff_some _ (by omega) _ (by omega), bsome, if_pos (by rw [tb_len, tb_len]; omega)]
    unfold spec_flag.f
    rw [bsome, flag_tb, if_pos (by rw [ByteArray.size_append, tb_len, tb_len, tb_len]; simp [FL]; omega), tb_app2, w64s (by omega),
      ih (j + 1) k _ (by omega) (by omega) (by simp [FL]; omega) (by omega), List.drop_eq_getElem_cons (show j < l.length by omega)]
    generalize l[j] = s
    generalize l.drop (j + 1) = r
    simp [cat]
theorem specFl_some (l : List ByteArray) (hl : l.length ≤ 100000) (hs : ∀ s ∈ l, s.size ≤ 10000) (k : Nat) (hk : 130000 ≤ k) : spec_FlagFrames.f k l = some (fl l) := by
  unfold spec_FlagFrames.f spec_validFrames.f fl
  have := validF_l0 l hl hs l.length 0 k rfl (by omega) (by omega)
  rw [show ((0 : Nat) : Int) = 0 by rfl, List.drop_zero] at this
  rw [this, bsome]
  by_cases h : l.all okF = true ∧ l.length ≤ 4
  · rw [if_pos h, if_pos (by simp only [h.1, Bool.true_and, decide_eq_true_eq]; exact h.2)]
    unfold spec_flag.f
    have h2 := specFl_l0 l h.2 h.1 l.length 0 k FL rfl (by omega) (by simp [FL]) (by omega)
    rw [show ((0 : Nat) : Int) = 0 by rfl, List.drop_zero] at h2
    rw [bsome, flag_tb, h2]
  · rw [if_neg h, if_neg (by simp only [Bool.and_eq_true, decide_eq_true_eq]; exact h)]
    rfl
theorem implFl_l0 (l : List ByteArray) (hl : l.length ≤ 4) (hs : ∀ s ∈ l, s.size ≤ 100000000) : ∀ (d j k : Nat) (acc : List Int), l.length - j = d → j ≤ l.length → acc.length ≤ 10 + 100 * j → d + 2000 < k →
    impl_FlagFrames.l0 k (tb acc) l (l.length : Int) (j : Int) = some (if (l.drop j).all okF = true then tb (acc ++ cat (l.drop j)) else tb []) := by
  intro d
  induction d with
  | zero =>
    intro j k acc hd hj ha hk
    obtain ⟨k, rfl⟩ : ∃ m, k = m + 1 := ⟨k - 1, by omega⟩
    simp only [impl_FlagFrames.l0]
    rw [if_neg (by omega), List.drop_eq_nil_of_le (by omega)]
    simp [cat]
  | succ d ih =>
    intro j k acc hd hj ha hk
    obtain ⟨k, rfl⟩ : ∃ m, k = m + 1 := ⟨k - 1, by omega⟩
    simp only [impl_FlagFrames.l0]
    have hm := hs l[j] (List.getElem_mem (by omega))
    rw [if_pos (show (j : Int) < (l.length : Int) by omega), if_pos (show (0 : Int) ≤ (j : Int) by omega), if_pos (show (j : Int) < (l.length : Int) by omega), rdOf_nat l j (by omega), List.drop_eq_getElem_cons (show j < l.length by omega), List.all_cons]
    by_cases h0 : (l[j]).toList = ([] : List UInt8)
    · have := (toList_nil_iff l[j]).1 h0
      rw [if_pos h0, if_neg (by simp [okF, this])]
      rfl
    · have h00 : (l[j]).size ≠ 0 := fun e => h0 ((toList_nil_iff l[j]).2 e)
      rw [if_neg h0, valid_some _ (by omega), bsome]
      cases h1 : (okBits l[j] && decide ((l[j]).size ≤ 40)) with
      | false =>
        rw [if_neg (by simp), if_neg (by unfold okF; rw [h1]; simp)]
        rfl
      | true =>
        have hok : okF l[j] = true := by unfold okF; rw [h1]; simpa using h00
        have h2 := stfB hok
        rw [if_pos rfl, stuffed_some _ (by omega) h2.1 _ (by omega), bsome, flag_tb, if_pos (by rw [tb_len]; omega), if_pos (by rw [ByteArray.size_append, tb_len, tb_len, tb_len]; simp [FL]; omega), ← app_assoc, tb_app2, w64s (by omega),
          ih (j + 1) k _ (by omega) (by omega) (by simp [FL]; omega) (by omega), hok, Bool.true_and]
        generalize l[j] = s
        generalize l.drop (j + 1) = r
        simp [cat]
theorem implFl_some (l : List ByteArray) (hs : ∀ s ∈ l, s.size ≤ 100000000) (k : Nat) (hk : 3000 ≤ k) : impl_FlagFrames.f k l = some (fl l) := by
  unfold impl_FlagFrames.f fl
  by_cases h4 : (l.length : Int) > 4
  · rw [if_pos h4, if_neg (fun h => by have := h.2; omega)]; rfl
  · have h2 := implFl_l0 l (by omega) hs l.length 0 k FL rfl (by omega) (by simp [FL]) (by omega)
    rw [show ((0 : Nat) : Int) = 0 by rfl, List.drop_zero] at h2
    rw [if_neg h4, flag_tb, h2]
    by_cases h : l.all okF = true
    · rw [if_pos h, if_pos ⟨h, by omega⟩]
    · rw [if_neg h, if_neg (fun x => h x.1)]
theorem pcs_flag (n : Nat) (rest : List Int) (h : (FL ++ rest).length < n) : pcs FL n [] (FL ++ rest) = [] :: pcs FL n [] rest := by
  have := pcs_row [] 0 n [] rest (by omega) rfl (by simpa using h)
  simpa using this
theorem pcs_cat : ∀ (l : List ByteArray) (n : Nat) (rest : List Int), l.all okF = true → (cat l ++ rest).length < n → pcs FL n [] (cat l ++ rest) = l.map (fun s => stf 0 (bl s)) ++ pcs FL n [] rest := by
  intro l
  induction l with
  | nil => intro n rest _ _; rfl
  | cons s l ih =>
    intro n rest h hn
    simp only [List.all_cons, Bool.and_eq_true] at h
    have hs := stfB h.1
    have e : cat (s :: l) ++ rest = stf 0 (bl s) ++ (FL ++ (cat l ++ rest)) := by simp [cat]
    rw [e] at hn ⊢
    rw [pcs_row (stf 0 (bl s)) 0 n [] _ (by omega) (rok_stf _ _ hs.1 (by omega) (by omega)) hn, ih n rest h.2 (by simp only [List.length_append] at hn ⊢; omega)]
    rfl
theorem stf_ne (l : List Int) (n : Int) (h : l ≠ []) : stf n l ≠ [] := by
  cases l with
  | nil => exact absurd rfl h
  | cons c r =>
    unfold stf
    split
    · split <;> simp
    · simp
theorem Gf_cat : ∀ (l : List ByteArray) (ps : List (List Int)), l.all okF = true → ps ≠ [] → Gf (l.map (fun s => stf 0 (bl s)) ++ ps) = l ++ Gf ps := by
  intro l
  induction l with
  | nil => intro ps _ _; rfl
  | cons s l ih =>
    intro ps h hp
    simp only [List.all_cons, Bool.and_eq_true] at h
    have hs := stfB h.1
    have hne : stf 0 (bl s) ≠ [] := stf_ne _ _ (fun e => hs.2.2.1 (by rw [← bl_len, e]; rfl))
    rw [List.map_cons, List.cons_append, Gf_cons _ _ (by simp [hp]), if_neg hne, ih ps h.2 hp, uout_sout s hs.1 hs.2.1]
    rfl
theorem cat_bits : ∀ (l : List ByteArray), l.all okF = true → (cat l).all isBit = true := by
  intro l
  induction l with
  | nil => intro _; rfl
  | cons s l ih =>
    intro h
    simp only [List.all_cons, Bool.and_eq_true] at h
    have hs := stfB h.1
    rw [show cat (s :: l) = stf 0 (bl s) ++ (FL ++ cat l) by simp [cat], List.all_append, List.all_append, stf_bits _ _ hs.1, ih h.2]
    rfl
theorem cat_len : ∀ (l : List ByteArray) (m : Nat), (∀ s ∈ l, s.size ≤ m) → l.all okF = true → (cat l).length ≤ l.length * (m + m / 5 + 8) := by
  intro l
  induction l with
  | nil => intro _ _ _; simp [cat]
  | cons s l ih =>
    intro m hm h
    simp only [List.all_cons, Bool.and_eq_true] at h
    have h1 := ih m (fun x hx => hm x (List.mem_cons_of_mem _ hx)) h.2
    have h2 := hm s (List.mem_cons_self ..)
    have h3 := stf_len (bl s) 0 (by omega) (by omega)
    rw [bl_len] at h3
    rw [show cat (s :: l) = stf 0 (bl s) ++ (FL ++ cat l) by simp [cat]]
    simp only [List.length_append, List.length_cons]
    have h4 : FL.length = 8 := rfl
    rw [Nat.succ_mul]
    have h5 : (stf 0 (bl s)).length ≤ m + m / 5 := by omega
    omega
/-- Drawn frames: those that are valid are short. -/
theorem someBits_l0_short {b : List Int} : ∀ (d k : Nat) (s : ByteArray) (x p n : Int), RS b p n → n ≤ 10000 - d → x.toNat = d → x ≤ 100 → s.size ≤ 12 → d + 4 ≤ k →
    ∃ t q, spec_someBits.l0 k 12 s x b p = some (t, q) ∧ (okF t = true → t.size ≤ 12) := by
  intro d
  have fin : ∀ (k : Nat) (s : ByteArray) (p n : Int), RS b p n → n ≤ 10000 → s.size ≤ 12 → 2 ≤ k → ∃ t q, spec_someBits.j1 k s b p = some (t, q) ∧ (okF t = true → t.size ≤ 12) := by
    intro k s p n hR hn hs hk
    obtain ⟨k, rfl⟩ : ∃ m, k = m + 1 := ⟨k - 1, by omega⟩
    simp only [spec_someBits.j1]
    obtain ⟨r, hr, _, _, hR1⟩ := pick_some hR (by omega) 24 (by omega)
    rw [hr k (by omega), bsome]
    simp only []
    by_cases h0 : r = 0
    · rw [if_pos h0]
      obtain ⟨t, ht, hm, hR2⟩ := of_some hR1 (by omega) ([(⟨#[50]⟩ : ByteArray), (⟨#[120]⟩ : ByteArray), (⟨#[48, 48, 48, 48, 48, 48, 48, 48, 48, 48, 48, 48, 48, 48, 48, 48, 48, 48, 48, 48, 48, 48, 48, 48, 48, 48, 48, 48, 48, 48, 48, 48, 48, 48, 48, 48, 48, 48, 48, 48, 48]⟩ : ByteArray)]) (by simp) (by simp)
      have h1 : t.size ≤ 41 ∧ (okBits t = false ∨ t.size = 41) := by
        simp only [List.mem_cons, List.not_mem_nil, or_false] at hm
        rcases hm with rfl | rfl | rfl <;> decide
      rw [ht k (by omega), bsome]
      simp only []
      rw [if_pos (by omega)]
      refine ⟨_, _, rfl, fun h => ?_⟩
      obtain ⟨g1, g2, _⟩ := stfB h
      rw [ByteArray.size_append] at g2
      have g3 : okBits t = true := by
        unfold okBits at g1 ⊢
        rw [bl_append, List.all_append, Bool.and_eq_true] at g1
        exact g1.2
      rcases h1.2 with h2 | h2
      · rw [g3] at h2; cases h2
      · omega
    · rw [if_neg h0]
      exact ⟨_, _, rfl, fun _ => hs⟩
  induction d with
  | zero =>
    intro k s x p n hR hn hx hx2 hs hk
    obtain ⟨k, rfl⟩ : ∃ m, k = m + 1 := ⟨k - 1, by omega⟩
    simp only [spec_someBits.l0]
    rw [if_neg (by omega)]
    exact fin k s p n hR (by omega) hs (by omega)
  | succ d ih =>
    intro k s x p n hR hn hx hx2 hs hk
    obtain ⟨k, rfl⟩ : ∃ m, k = m + 1 := ⟨k - 1, by omega⟩
    simp only [spec_someBits.l0]
    rw [if_pos (by omega)]
    by_cases hm : (s.size : Int) < 12
    · rw [if_pos hm]
      obtain ⟨t, ht, htm, hR1⟩ := of_some hR (by omega) ([(⟨#[48]⟩ : ByteArray), (⟨#[49]⟩ : ByteArray), (⟨#[49]⟩ : ByteArray), (⟨#[49]⟩ : ByteArray)]) (by simp) (by simp)
      have h1 : t.size = 1 := by
        simp only [List.mem_cons, List.not_mem_nil, or_false] at htm
        rcases htm with rfl | rfl | rfl | rfl <;> rfl
      rw [ht k (by omega), bsome]
      simp only []
      rw [if_pos (by omega), w64 (n := x - 1) (by omega) (by omega)]
      exact ih k (s ++ t) (x - 1) (p + 1) (n + 1) hR1 (by omega) (by omega) (by omega) (by rw [ByteArray.size_append, h1]; omega) (by omega)
    · rw [if_neg hm]
      exact fin k s p n hR (by omega) hs (by omega)
theorem someBits_short {b : List Int} {p n : Int} (hR : RS b p n) (hn : n ≤ 5000) (k : Nat) (hk : 100 ≤ k) :
    ∃ t q, spec_someBits.f k b p 12 = some (t, q) ∧ t.size ≤ 81 ∧ RS b q (n + 50) ∧ (okF t = true → t.size ≤ 12) := by
  obtain ⟨t, q, h1, h2, h3⟩ := someBits_some hR hn 12 k hk
  refine ⟨t, q, h1, h2, h3, ?_⟩
  unfold spec_someBits.f at h1
  obtain ⟨r, hr, hm, hR1⟩ := one_some hR (by omega) ([12, 8, 20, 4, 1, 0, 40] : List Int) (by simp) (by simp)
  have h40 : 0 ≤ r ∧ r ≤ 40 := by
    simp only [List.mem_cons, List.not_mem_nil, or_false] at hm
    omega
  rw [hr k (by omega), bsome] at h1
  obtain ⟨t2, q2, g1, g2⟩ := someBits_l0_short r.toNat k (⟨#[]⟩ : ByteArray) r (p + 1) (n + 1) hR1 (by omega) rfl (by omega) (by decide) (by omega)
  simp only [] at h1
  rw [g1] at h1
  cases h1
  exact g2
theorem someFrames_l0 {b : List Int} : ∀ (d k : Nat) (acc : List ByteArray) (x p n : Int), RS b p n → n ≤ 4000 - 50 * d → x.toNat = d → x ≤ 5 → acc.length + d ≤ 5 → (∀ s ∈ acc, s.size ≤ 81 ∧ (okF s = true → s.size ≤ 12)) → d + 200 ≤ k →
    ∃ t q, spec_someFrames.l0 k acc x b p = some (t, q) ∧ t.length ≤ 5 ∧ RS b q (n + 50 * d) ∧ (∀ s ∈ t, s.size ≤ 81 ∧ (okF s = true → s.size ≤ 12)) := by
  intro d
  induction d with
  | zero =>
    intro k acc x p n hR hn hx hx2 ha hs hk
    obtain ⟨k, rfl⟩ : ∃ m, k = m + 1 := ⟨k - 1, by omega⟩
    simp only [spec_someFrames.l0]
    rw [if_neg (by omega)]
    exact ⟨_, _, rfl, by omega, hR.le (by omega), hs⟩
  | succ d ih =>
    intro k acc x p n hR hn hx hx2 ha hs hk
    obtain ⟨k, rfl⟩ : ∃ m, k = m + 1 := ⟨k - 1, by omega⟩
    simp only [spec_someFrames.l0]
    obtain ⟨t, q, h1, h2, h3, h4⟩ := someBits_short hR (by omega) k (by omega)
    rw [if_pos (by omega), h1, bsome]
    simp only []
    rw [if_pos (show acc.length < 8796093022208 by omega), w64 (n := x - 1) (by omega) (by omega)]
    obtain ⟨t2, q2, g1, g2, g3, g4⟩ := ih k (acc ++ [t]) (x - 1) q (n + 50) h3 (by omega) (by omega) (by omega) (by simp; omega) (fun s hs2 => by
      rcases List.mem_append.1 hs2 with h | h
      · exact hs s h
      · rw [List.mem_singleton.1 h]; exact ⟨h2, h4⟩) (by omega)
    exact ⟨t2, q2, g1, g2, g3.le (by omega), g4⟩
theorem someFrames_some {b : List Int} {p n : Int} (hR : RS b p n) (hn : n ≤ 1000) (k : Nat) (hk : 300 ≤ k) :
    ∃ t q, spec_someFrames.f k b p = some (t, q) ∧ t.length ≤ 5 ∧ RS b q (n + 300) ∧ (∀ s ∈ t, s.size ≤ 81 ∧ (okF s = true → s.size ≤ 12)) := by
  unfold spec_someFrames.f
  obtain ⟨r, hr, hm, hR1⟩ := one_some hR (by omega) ([2, 3, 1, 4, 0, 5] : List Int) (by simp) (by simp)
  have h40 : 0 ≤ r ∧ r ≤ 5 := by
    simp only [List.mem_cons, List.not_mem_nil, or_false] at hm
    omega
  rw [hr k (by omega), bsome]
  obtain ⟨t, q, h1, h2, h3, h4⟩ := someFrames_l0 r.toNat k [] r (p + 1) (n + 1) hR1 (by omega) rfl (by omega) (by simp; omega) (by simp) (by omega)
  exact ⟨t, q, h1, h2, h3.le (by omega), h4⟩

end Go.Proofs.YtbgchgjefohpoaaDoor.Pure
