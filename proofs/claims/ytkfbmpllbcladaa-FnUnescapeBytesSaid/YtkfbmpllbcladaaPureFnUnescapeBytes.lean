/- The law FnUnescapeBytes returns true for every code: conditions: the code is bytes, and as long as an argument may be. -/
import Derived.Test.YtkfbmpllbcladaaPx11
import Derived.Test.YtkfbmpllbcladaaPx12
import Derived.Test.YtkfbmpllbcladaaPx14
import Derived.Test.YtkfbmpllbcladaaPx8
import Derived.Test.YtkfbmpllbcladaaQBytes
import Derived.Test.YtkfbmpllbcladaaQDraw
namespace Go.Proofs.Ytkfbmpllbcladaa.Pure
open Go.RowKit Go.Proofs.Ytkfbmpllbcladaa.P Go.Proofs.YtkfbmpllbcladaaW.PrintWords Go.Proofs.YtkfbmpllbcladaaW.PrintLast
set_option linter.unusedVariables false
set_option linter.unusedSimpArgs false

theorem escOf_le (l : List Int) (h : l.length ≤ 1000) : (escOf l).length ≤ 2001 := by
  unfold escOf; split
  · have := esc_le l; simp; omega
  · simp

/-- How the program reads what stands for bytes: it takes what is there, and holds it against its own bytes later. -/
def dec : List Int → List Int → List Int
  | acc, x :: y :: r => if acc.length ≤ 16 then (if x = 219 then dec (acc ++ [if y = 221 then 219 else 192]) r else dec (acc ++ [x]) (y :: r)) else acc
  | acc, _ => acc

def unescOf (out l : List Int) : List Int × Bool := if okB out = true ∧ escOf out = l then (out, true) else ([], false)

theorem implUn_end (l acc : List Int) (i : Int) (hl : l.length ≤ 1000000) (ha : acc.length ≤ 1000000) (k : Nat) (hk : 3000002 ≤ k) : impl_UnescapeBytes.j1 k l acc i false = some (unescOf acc l) := by
  obtain ⟨k, rfl⟩ : ∃ j, k = j + 1 := ⟨k - 1, by omega⟩
  simp only [impl_UnescapeBytes.j1, Bool.false_eq_true, if_false]
  rw [bytesOk_some acc (by omega)]
  simp only [Option.bind_some]
  unfold unescOf
  cases h : okB acc
  · simp
  · rw [if_pos rfl, implEscape_some acc (by omega) k (by omega), Option.bind_some]
    have : (escOf acc).length ≤ 2000001 := by
      have h' := esc_le acc
      unfold escOf; split <;> simp <;> omega
    rw [Equal_some _ _ (by omega) k (by omega), Option.bind_some]
    by_cases e : escOf acc = l <;> simp [e]

theorem implUn_l0 (l : List Int) (hl : l.length ≤ 1000000) : ∀ (d j k : Nat) (acc : List Int), l.length - j ≤ d → j ≤ l.length → 3000010 + 2 * d ≤ k → acc.length + d ≤ 1000000 →
    impl_UnescapeBytes.l0 k l acc (j : Int) = some (unescOf (dec acc (l.drop j)) l) := by
  intro d
  induction d with
  | zero =>
    intro j k acc hd hj hk ha
    obtain ⟨k, rfl⟩ : ∃ m, k = m + 1 := ⟨k - 1, by omega⟩
    simp only [impl_UnescapeBytes.l0]
    rw [w64s (by omega), if_neg (by omega), implUn_end l acc _ hl (by omega) k (by omega), List.drop_eq_nil_of_le (by omega)]
    rfl
  | succ d ih =>
    intro j k acc hd hj hk ha
    obtain ⟨k, rfl⟩ : ∃ m, k = m + 2 := ⟨k - 2, by omega⟩
    simp only [impl_UnescapeBytes.l0]
    rw [w64s (by omega)]
    by_cases h1 : j + 1 < l.length
    · rw [if_pos (by omega), List.drop_eq_getElem_cons (by omega : j < l.length), List.drop_eq_getElem_cons (by omega : j + 1 < l.length)]
      by_cases h2 : acc.length ≤ 16
      · rw [decide_eq_true (by omega : (acc.length : Int) ≤ 16)]
        simp only [impl_UnescapeBytes.j1, if_true]
        rw [if_pos (by omega), if_pos (by omega), w64s (by omega), rd_nat l j (by omega), rd_nat l (j + 1) (by omega), w64s (by omega)]
        simp only [dec]
        rw [if_pos h2]
        have g := ih (j + 2) k
        by_cases c1 : l[j] = 219
        · rw [if_pos c1, if_pos c1, if_pos (by omega), if_pos (by omega)]
          by_cases c2 : l[j + 1] = 221
          · rw [if_pos c2, if_pos c2, if_pos (by omega), show ((j + 1 + 1 : Nat) : Int) = ((j + 2 : Nat) : Int) by omega, g _ (by omega) (by omega) (by omega) (by simp; omega)]
          · rw [if_neg c2, if_neg c2, if_pos (by omega), show ((j + 1 + 1 : Nat) : Int) = ((j + 2 : Nat) : Int) by omega, g _ (by omega) (by omega) (by omega) (by simp; omega)]
        · rw [if_neg c1, if_neg c1, if_pos (by omega), ih (j + 1) k _ (by omega) (by omega) (by omega) (by simp; omega), List.drop_eq_getElem_cons (by omega : j + 1 < l.length)]
      · rw [decide_eq_false (by omega : ¬ (acc.length : Int) ≤ 16), implUn_end l acc _ hl (by omega) (k + 1) (by omega)]
        simp only [dec]
        rw [if_neg h2]
    · rw [if_neg (by omega), implUn_end l acc _ hl (by omega) (k + 1) (by omega)]
      congr 2
      by_cases h2 : j < l.length
      · rw [List.drop_eq_getElem_cons h2, List.drop_eq_nil_of_le (by omega)]; rfl
      · rw [List.drop_eq_nil_of_le (by omega)]; rfl

theorem implUn_some (l : List Int) (hl : l.length ≤ 100000) (k : Nat) (hk : 4000000 ≤ k) : impl_UnescapeBytes.f k l = some (unescOf (dec [] l) l) := by
  have := implUn_l0 l (by omega) l.length 0 k [] (by omega) (by omega) (by omega) (by simp; omega)
  unfold impl_UnescapeBytes.f
  simpa using this

/-- How the reference reads it. -/
def sdec : List Int → List Int → Option (List Int)
  | acc, x :: y :: r => if x = 192 then none else if x = 219 then (if y = 220 then sdec (acc ++ [192]) r else if y = 221 then sdec (acc ++ [219]) r else none) else sdec (acc ++ [x]) (y :: r)
  | acc, _ => some acc

def sOf : Option (List Int) → List Int × Bool
  | none => ([], false)
  | some out => if out.length > 16 then ([], false) else (out, true)

theorem specUn_l0 (l : List Int) (hl : l.length ≤ 1000000) : ∀ (d j k : Nat) (acc : List Int), l.length - j ≤ d → j ≤ l.length → d + 1 ≤ k → acc.length + d ≤ 1000000 →
    spec_UnescapeBytes.l0 k l (l.length : Int) acc (j : Int) = some (sOf (sdec acc (l.drop j))) := by
  have fin : ∀ (k : Nat) (acc : List Int), (if (acc.length : Int) > 16 then some (([] : List Int), false) else some (acc, true)) = some (sOf (some acc)) := by
    intro k acc
    simp only [sOf]
    by_cases h : acc.length > 16
    · rw [if_pos (by omega), if_pos h]
    · rw [if_neg (by omega), if_neg h]
  intro d
  induction d with
  | zero =>
    intro j k acc hd hj hk ha
    obtain ⟨k, rfl⟩ : ∃ m, k = m + 1 := ⟨k - 1, by omega⟩
    simp only [spec_UnescapeBytes.l0]
    rw [w64 (by omega) (by omega), if_neg (by omega), List.drop_eq_nil_of_le (by omega)]
    exact fin k acc
  | succ d ih =>
    intro j k acc hd hj hk ha
    obtain ⟨k, rfl⟩ : ∃ m, k = m + 1 := ⟨k - 1, by omega⟩
    simp only [spec_UnescapeBytes.l0]
    rw [w64 (by omega) (by omega)]
    by_cases h1 : j + 1 < l.length
    · rw [if_pos (by omega), if_pos (by omega), if_pos (by omega), w64s (by omega), rd_nat l j (by omega), rd_nat l (j + 1) (by omega), w64s (by omega)]
      rw [List.drop_eq_getElem_cons (by omega : j < l.length), List.drop_eq_getElem_cons (by omega : j + 1 < l.length)]
      simp only [sdec]
      have g := ih (j + 2) k
      by_cases c0 : l[j] = 192
      · rw [if_pos c0, if_pos c0]; rfl
      · rw [if_neg c0, if_neg c0]
        by_cases c1 : l[j] = 219
        · rw [if_pos c1, if_pos c1, if_pos (by omega), if_pos (by omega)]
          by_cases c2 : l[j + 1] = 220
          · rw [if_pos c2, if_pos c2, if_pos (by omega), show ((j + 1 + 1 : Nat) : Int) = ((j + 2 : Nat) : Int) by omega, g _ (by omega) (by omega) (by omega) (by simp; omega)]
          · rw [if_neg c2, if_neg c2]
            by_cases c3 : l[j + 1] = 221
            · rw [if_pos c3, if_pos c3, if_pos (by omega), show ((j + 1 + 1 : Nat) : Int) = ((j + 2 : Nat) : Int) by omega, g _ (by omega) (by omega) (by omega) (by simp; omega)]
            · rw [if_neg c3, if_neg c3]; rfl
        · rw [if_neg c1, if_neg c1, if_pos (by omega), ih (j + 1) k _ (by omega) (by omega) (by omega) (by simp; omega), List.drop_eq_getElem_cons (by omega : j + 1 < l.length)]
    · rw [if_neg (by omega)]
      have e : sdec acc (l.drop j) = some acc := by
        by_cases h2 : j < l.length
        · rw [List.drop_eq_getElem_cons h2, List.drop_eq_nil_of_le (by omega)]; rfl
        · rw [List.drop_eq_nil_of_le (by omega)]; rfl
      rw [e]
      exact fin k acc

def specUnOf (l : List Int) : List Int × Bool := if l.getLast? = some 192 ∧ l.all inB = true ∧ l.length ≤ 33 then sOf (sdec [] l) else ([], false)

theorem specUn_some (l : List Int) (hl : l.length ≤ 100000) (k : Nat) (hk : 1000000 ≤ k) : spec_UnescapeBytes.f k l = some (specUnOf l) := by
  unfold spec_UnescapeBytes.f specUnOf
  obtain ⟨k, rfl⟩ : ∃ m, k = m + 1 := ⟨k - 1, by omega⟩
  by_cases h0 : (l.length : Int) = 0
  · have : l = [] := List.length_eq_zero_iff.1 (by omega)
    subst this
    rw [if_pos h0]
    simp [spec_UnescapeBytes.j0]
  · rw [if_neg h0, validBytes_some l 33 (by omega) (k + 1) (by omega), Option.bind_some, w64 (by omega) (by omega)]
    have hx : rd l ((l.length : Int) - 1) = l.getLast (by intro e; simp [e] at h0) := by
      rw [show ((l.length : Int) - 1) = ((l.length - 1 : Nat) : Int) by omega, rd_nat l (l.length - 1) (by omega), List.getLast_eq_getElem]
    have hy : l.getLast? = some (rd l ((l.length : Int) - 1)) := by rw [hx, List.getLast?_eq_some_getLast]
    rw [hy]
    by_cases h1 : l.all inB = true ∧ l.length ≤ 33
    · have : (l.all inB && decide ((l.length : Int) ≤ 33)) = true := by simp [h1.1]; simp [h1.1] at *; omega
      rw [this, if_pos rfl, if_pos (by omega), if_pos (by omega)]
      by_cases h2 : rd l ((l.length : Int) - 1) = 192
      · simp only [spec_UnescapeBytes.j0]
        rw [h2, if_neg (by simp), if_pos ⟨rfl, h1⟩]
        have := specUn_l0 l (by omega) l.length 0 k [] (by omega) (by omega) (by omega) (by simp; omega)
        simpa using this
      · simp only [spec_UnescapeBytes.j0]
        rw [if_pos (by simpa using h2), if_neg (by simp [h2])]
    · have : (l.all inB && decide ((l.length : Int) ≤ 33)) = false := by
        rw [Bool.and_eq_false_iff]
        by_cases h2 : l.all inB = true
        · right; have : ¬ l.length ≤ 33 := fun e => h1 ⟨h2, e⟩; simp; omega
        · left; simpa using h2
      rw [this, if_neg (by simp), if_neg (fun e => h1 ⟨e.2.1, e.2.2⟩)]
      simp only [spec_UnescapeBytes.j0, if_true]

/-! Both readings agree: they find the bytes of which the list is what stands for them, and nothing else. -/
theorem dec_esc : ∀ (out acc : List Int), acc.length + out.length ≤ 16 → dec acc (esc out ++ [192]) = acc ++ out := by
  intro out
  induction out with
  | nil => intro acc _; simp [esc, dec]
  | cons x out ih =>
    intro acc h
    simp only [List.length_cons] at h
    have hne : ∃ y r, esc out ++ [192] = y :: r := by
      cases h' : esc out ++ [192] with
      | nil => simp at h'
      | cons y r => exact ⟨y, r, rfl⟩
    obtain ⟨y, r, hyr⟩ := hne
    rw [esc_cons, List.append_assoc]
    unfold esc1
    by_cases h1 : x = 192
    · rw [if_pos h1]
      show dec acc (219 :: 220 :: (esc out ++ [192])) = _
      rw [dec, if_pos (by omega), if_pos rfl, ih _ (by simp; omega)]
      simp [h1]
    · rw [if_neg h1]
      by_cases h2 : x = 219
      · rw [if_pos h2]
        show dec acc (219 :: 221 :: (esc out ++ [192])) = _
        rw [dec, if_pos (by omega), if_pos rfl, ih _ (by simp; omega)]
        simp [h2]
      · rw [if_neg h2]
        show dec acc (x :: (esc out ++ [192])) = _
        rw [hyr, dec, if_pos (by omega), if_neg h2, ← hyr, ih _ (by simp; omega)]
        simp

theorem sdec_esc : ∀ (out acc : List Int), sdec acc (esc out ++ [192]) = some (acc ++ out) := by
  intro out
  induction out with
  | nil => intro acc; simp [esc, sdec]
  | cons x out ih =>
    intro acc
    have hne : ∃ y r, esc out ++ [192] = y :: r := by
      cases h' : esc out ++ [192] with
      | nil => simp at h'
      | cons y r => exact ⟨y, r, rfl⟩
    obtain ⟨y, r, hyr⟩ := hne
    rw [esc_cons, List.append_assoc]
    unfold esc1
    by_cases h1 : x = 192
    · rw [if_pos h1]
      show sdec acc (219 :: 220 :: (esc out ++ [192])) = _
      rw [sdec, if_neg (by decide), if_pos rfl, if_pos rfl, ih]
      simp [h1]
    · rw [if_neg h1]
      by_cases h2 : x = 219
      · rw [if_pos h2]
        show sdec acc (219 :: 221 :: (esc out ++ [192])) = _
        rw [sdec, if_neg (by decide), if_pos rfl, if_neg (by decide), if_pos rfl, ih]
        simp [h2]
      · rw [if_neg h2]
        show sdec acc (x :: (esc out ++ [192])) = _
        rw [hyr, sdec, if_neg h1, if_neg h2, ← hyr, ih]
        simp

theorem sdec_back : ∀ (n : Nat) (l acc out : List Int), l.length ≤ n → l.getLast? = some 192 → sdec acc l = some out → ∃ t, out = acc ++ t ∧ l = esc t ++ [192] ∧ (l.all inB = true → t.all inB = true) := by
  intro n
  induction n with
  | zero => intro l acc out hl hg _; have : l = [] := List.length_eq_zero_iff.1 (by omega); subst this; simp at hg
  | succ n ih =>
    intro l acc out hl hg h
    match l, hl, hg, h with
    | [], _, hg, _ => simp at hg
    | [x], _, hg, h =>
      simp [sdec] at h hg
      subst h hg
      exact ⟨[], by simp, by simp [esc], by simp⟩
    | x :: y :: r, hl, hg, h =>
      simp only [sdec] at h
      simp only [List.length_cons] at hl
      by_cases c0 : x = 192
      · rw [if_pos c0] at h; cases h
      · rw [if_neg c0] at h
        by_cases c1 : x = 219
        · rw [if_pos c1] at h
          have nr : y ≠ 192 → r.getLast? = some 192 := by
            intro hy
            cases r with
            | nil => simp at hg; exact absurd hg hy
            | cons z r => simpa using hg
          by_cases c2 : y = 220
          · rw [if_pos c2] at h
            obtain ⟨t, h1, h2, h3⟩ := ih r _ _ (by omega) (nr (by omega)) h
            refine ⟨192 :: t, by rw [h1]; simp, by rw [esc_cons, c1, c2, h2]; rfl, fun ha => ?_⟩
            simp only [List.all_cons, Bool.and_eq_true] at ha ⊢
            exact ⟨by decide, h3 ha.2.2⟩
          · rw [if_neg c2] at h
            by_cases c3 : y = 221
            · rw [if_pos c3] at h
              obtain ⟨t, h1, h2, h3⟩ := ih r _ _ (by omega) (nr (by omega)) h
              refine ⟨219 :: t, by rw [h1]; simp, by rw [esc_cons, c1, c3, h2]; rfl, fun ha => ?_⟩
              simp only [List.all_cons, Bool.and_eq_true] at ha ⊢
              exact ⟨by decide, h3 ha.2.2⟩
            · rw [if_neg c3] at h; cases h
        · rw [if_neg c1] at h
          obtain ⟨t, h1, h2, h3⟩ := ih (y :: r) _ _ (by simp; omega) (by simpa using hg) h
          refine ⟨x :: t, by rw [h1]; simp, by rw [esc_cons, h2]; unfold esc1; rw [if_neg c0, if_neg c1]; rfl, fun ha => ?_⟩
          simp only [List.all_cons, Bool.and_eq_true] at ha ⊢
          exact ⟨ha.1, h3 (by simp [ha.2])⟩

theorem inB_esc : ∀ t : List Int, t.all inB = true → (esc t).all inB = true := by
  intro t
  induction t with
  | nil => intro _; rfl
  | cons x t ih =>
    intro h
    simp only [List.all_cons, Bool.and_eq_true] at h
    rw [esc_cons, List.all_append, ih h.2, Bool.and_true]
    unfold esc1
    split
    · decide
    · split
      · decide
      · simp [h.1]

theorem un_agree (l : List Int) : unescOf (dec [] l) l = specUnOf l := by
  by_cases hx : ∃ out, okB out = true ∧ l = esc out ++ [192]
  · obtain ⟨out, ho, rfl⟩ := hx
    have ho' := ho
    simp only [okB, Bool.and_eq_true, decide_eq_true_eq] at ho'
    have e1 := dec_esc out [] (by simpa using ho'.1)
    have e2 := sdec_esc out []
    rw [List.nil_append] at e1 e2
    unfold unescOf specUnOf escOf
    rw [e1, e2, if_pos ⟨ho, by rw [if_pos ho]⟩, if_pos ⟨by simp, by rw [List.all_append, inB_esc out ho'.2]; decide, by have := esc_le out; simp; omega⟩]
    simp only [sOf]
    rw [if_neg (by omega)]
  · unfold unescOf
    rw [if_neg (by
      rintro ⟨h1, h2⟩
      unfold escOf at h2
      rw [if_pos h1] at h2
      exact hx ⟨_, h1, h2.symm⟩)]
    unfold specUnOf
    split
    · rename_i h
      obtain ⟨h1, h2, h3⟩ := h
      cases hs : sdec [] l with
      | none => rfl
      | some out =>
        simp only [sOf]
        by_cases hl : out.length > 16
        · rw [if_pos hl]
        · exfalso
          obtain ⟨t, a, b, c⟩ := sdec_back l.length l [] out (Nat.le_refl _) h1 hs
          rw [List.nil_append] at a
          subst a
          exact hx ⟨out, by simp only [okB, Bool.and_eq_true, decide_eq_true_eq]; exact ⟨by omega, c h2⟩, b⟩
    · rfl

theorem drawUn_some (code : List Int) (h : ∀ x ∈ code, (Lit.int .u8 x).wf = true) : ∃ l, (∀ k, 3000 ≤ k → spec_DrawUnescapeBytes.f k code = some l) ∧ l.length ≤ 1000 := by
  obtain ⟨b, hb, hR⟩ := newReader_some code h
  obtain ⟨r, p1, e1, e2, e3⟩ := someBytes_some hR (by omega) 16
  have e4 := escOf_le r (by omega)
  have e5 : (escOf r).length ≤ 67 := by
    unfold escOf; split
    · have := esc_le r; simp; omega
    · simp
  obtain ⟨l, p2, f1, f2, f3⟩ := bent_some e3 (by omega) (escOf r) (by omega)
  refine ⟨l, fun k hk => ?_, by omega⟩
  unfold spec_DrawUnescapeBytes.f
  rw [hb]
  simp only [Option.bind_some]
  rw [e1 k (by omega)]
  simp only [Option.bind_some]
  rw [specEscape_some r (by omega) k (by omega)]
  simp only [Option.bind_some]
  rw [f1 k (by omega)]
  rfl

theorem FnUnescapeBytes : laws_FnUnescapeBytes.Pure := by
  intro code hm hs hw
  by_cases hlong : (code.length : Int) > 1048576
  · exact ⟨0, by unfold laws_FnUnescapeBytes.f; rw [if_pos hlong]⟩
  · obtain ⟨l, hl, hlen⟩ := drawUn_some code hw
    refine ⟨5000001, ?_⟩
    unfold laws_FnUnescapeBytes.f
    rw [if_neg hlong, hl _ (by omega)]
    simp only [Option.bind_some]
    rw [implUn_some l (by omega) _ (by omega)]
    simp only [Option.bind_some]
    rw [specUn_some l (by omega) _ (by omega)]
    simp only [Option.bind_some]
    rw [← un_agree l]
    generalize hq : unescOf (dec [] l) l = q
    have hql : q.1.length ≤ 1000 := by
      rw [← hq]; unfold unescOf; split
      · rename_i h; have := h.1; simp only [okB, Bool.and_eq_true, decide_eq_true_eq] at this; simp; omega
      · simp
    rw [equalInts_some q.1 q.1 (by omega) _ (by omega)]
    simp only [Option.bind_some, decide_true, if_true, bne_self_eq_false, Bool.false_eq_true, if_false]
    simp only [laws_FnUnescapeBytes.j0]
    cases h2 : q.2
    · simp only [Bool.not_false, if_true]
      rw [equalInts_some q.1 q.1 (by omega) _ (by omega)]
      simp
    · simp only [Bool.not_true, Bool.false_eq_true, if_false]
      have hu : okB q.1 = true ∧ escOf q.1 = l := by
        rw [← hq] at h2 ⊢
        unfold unescOf at h2 ⊢
        split at h2
        · rename_i h; rw [if_pos h]; exact h
        · cases h2
      rw [implEscape_some q.1 (by omega) _ (by omega), Option.bind_some, hu.2, equalInts_some l l (by omega) _ (by omega)]
      simp

end Go.Proofs.Ytkfbmpllbcladaa.Pure
