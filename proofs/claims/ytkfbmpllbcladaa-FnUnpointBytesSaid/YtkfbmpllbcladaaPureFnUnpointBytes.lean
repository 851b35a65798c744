/- The law FnUnpointBytes returns true for every code: conditions: the code is bytes, and as long as an argument may be. -/
import Derived.Test.YtkfbmpllbcladaaPx15
import Derived.Test.YtkfbmpllbcladaaPx16
import Derived.Test.YtkfbmpllbcladaaPx17
import Derived.Test.YtkfbmpllbcladaaPx18
import Derived.Test.YtkfbmpllbcladaaPx19
import Derived.Test.YtkfbmpllbcladaaPx20
import Derived.Test.YtkfbmpllbcladaaQBytes
import Derived.Test.YtkfbmpllbcladaaQDraw
namespace Go.Proofs.Ytkfbmpllbcladaa.Pure
open Go.RowKit Go.Proofs.Ytkfbmpllbcladaa.P Go.Proofs.YtkfbmpllbcladaaW.PrintWords Go.Proofs.YtkfbmpllbcladaaW.PrintLast
set_option linter.unusedVariables false
set_option linter.unusedSimpArgs false

/-- Bytes without noughts: g is the group so far. -/
def pt : List Int → List Int → List Int
  | g, [] => ((g.length : Int) + 1) :: g
  | g, x :: l => if x = 0 then (((g.length : Int) + 1) :: g) ++ pt [] l else pt (g ++ [x]) l
def pi : List Int → List Int → List Int
  | _, [] => []
  | g, x :: l => if x = 0 then (((g.length : Int) + 1) :: g) ++ pi [] l else pi (g ++ [x]) l
theorem pi_snoc : ∀ (l g : List Int), pi g (l ++ [0]) = pt g l := by
  intro l
  induction l with
  | nil => intro g; simp [pi, pt]
  | cons x l ih => intro g; simp only [List.cons_append, pi, pt]; split <;> rw [ih]
theorem pt_le : ∀ (l g : List Int), (pt g l).length = g.length + l.length + 1 := by
  intro l
  induction l with
  | nil => intro g; simp [pt]
  | cons x l ih => intro g; simp only [pt]; split <;> simp [ih] <;> omega

def pointOf (l : List Int) : List Int := if okB l = true then pt [] l else []
theorem pointOf_le (l : List Int) : (pointOf l).length ≤ l.length + 1 := by
  unfold pointOf; split
  · rw [pt_le]; simp
  · simp

theorem implPoint_l0 (y : List Int) (hn : y.length ≤ 1000000) : ∀ (d j k : Nat) (acc g : List Int), y.length - j = d → j ≤ y.length → d < k → acc.length + g.length + 2 * d ≤ 10000000 →
    impl_PointBytes.l0 k acc g y (y.length : Int) (j : Int) = some (acc ++ pi g (y.drop j)) := by
  intro d
  induction d with
  | zero =>
    intro j k acc g hd hj hk ha
    obtain ⟨k, rfl⟩ : ∃ m, k = m + 1 := ⟨k - 1, by omega⟩
    simp only [impl_PointBytes.l0]
    rw [if_neg (by omega), List.drop_eq_nil_of_le (by omega)]
    simp [pi]
  | succ d ih =>
    intro j k acc g hd hj hk ha
    obtain ⟨k, rfl⟩ : ∃ m, k = m + 1 := ⟨k - 1, by omega⟩
    simp only [impl_PointBytes.l0, Option.bind_some]
    rw [if_pos (by omega), if_pos (by omega), if_pos (by omega), rd_nat y j (by omega), w64 (n := (g.length : Int) + 1) (by omega) (by omega), w64s (by omega), List.drop_eq_getElem_cons (by omega : j < y.length)]
    simp only [pi]
    by_cases h : y[j] = 0
    · rw [if_pos h, if_pos h, if_pos (by omega), if_pos (by simp; omega), ih (j + 1) k _ _ (by omega) (by omega) (by omega) (by simp; omega)]; simp
    · rw [if_neg h, if_neg h, if_pos (by omega), ih (j + 1) k _ _ (by omega) (by omega) (by omega) (by simp; omega)]

theorem implPoint_some (l : List Int) (hn : l.length ≤ 100000) (k : Nat) (hk : l.length + 2 < k) : impl_PointBytes.f k l = some (pointOf l) := by
  unfold impl_PointBytes.f pointOf
  rw [bytesOk_some l (by omega), Option.bind_some]
  split
  · unfold slices_Clone_int_int.f
    simp only [Option.bind_some, List.length_nil, Nat.zero_add, List.nil_append]
    rw [if_pos (by omega)]
    simp only [Option.bind_some]
    rw [if_pos (by omega)]
    have := implPoint_l0 (l ++ [0]) (by simp; omega) (l ++ [0]).length 0 k [] [] (by omega) (by omega) (by simp; omega) (by simp; omega)
    rw [List.drop_zero, List.nil_append, pi_snoc] at this
    exact this
  · rfl

theorem specPoint_l0 (y : List Int) (hn : y.length ≤ 1000000) : ∀ (d j k : Nat) (acc g : List Int), y.length - j = d → j ≤ y.length → d < k → acc.length + g.length + 2 * d ≤ 10000000 →
    spec_PointBytes.l0 k y acc g (j : Int) = some (acc ++ pt g (y.drop j)) := by
  intro d
  induction d with
  | zero =>
    intro j k acc g hd hj hk ha
    obtain ⟨k, rfl⟩ : ∃ m, k = m + 1 := ⟨k - 1, by omega⟩
    simp only [spec_PointBytes.l0, Option.bind_some]
    rw [if_neg (by omega), if_pos (by omega), if_pos (by simp; omega), w64 (n := (g.length : Int) + 1) (by omega) (by omega), List.drop_eq_nil_of_le (by omega)]
    simp [pt]
  | succ d ih =>
    intro j k acc g hd hj hk ha
    obtain ⟨k, rfl⟩ : ∃ m, k = m + 1 := ⟨k - 1, by omega⟩
    simp only [spec_PointBytes.l0, Option.bind_some]
    rw [if_pos (by omega), if_pos (by omega), rd_nat y j (by omega), w64 (n := (g.length : Int) + 1) (by omega) (by omega), w64s (by omega), List.drop_eq_getElem_cons (by omega : j < y.length)]
    simp only [pt]
    by_cases h : y[j] = 0
    · rw [if_pos h, if_pos h, if_pos (by omega), if_pos (by simp; omega), ih (j + 1) k _ _ (by omega) (by omega) (by omega) (by simp; omega)]; simp
    · rw [if_neg h, if_neg h, if_pos (by omega), ih (j + 1) k _ _ (by omega) (by omega) (by omega) (by simp; omega)]

theorem specPoint_some (l : List Int) (hn : l.length ≤ 100000) (k : Nat) (hk : l.length + 2 < k) : spec_PointBytes.f k l = some (pointOf l) := by
  unfold spec_PointBytes.f pointOf
  rw [validBytes16 l (by omega) k (by omega), Option.bind_some]
  split
  · have := specPoint_l0 l (by omega) l.length 0 k [] [] (by omega) (by omega) (by omega) (by simp; omega)
    simpa using this
  · rfl

/-- How the program reads groups. -/
def idec : Nat → Bool → List Int → List Int → Option (List Int)
  | 0, _, _, _ => none
  | _ + 1, _, acc, [] => some acc
  | f + 1, first, acc, n :: r => if acc.length ≤ 16 then (if n < 1 ∨ 17 < n ∨ (r.length : Int) + 1 < n then none else idec f false ((if first = true then acc else acc ++ [0]) ++ r.take (n - 1).toNat) (r.drop (n - 1).toNat)) else some acc

def iOf (l : List Int) : Option (List Int) → List Int × Bool
  | none => ([], false)
  | some out => if okB out = true ∧ pointOf out = l then (out, true) else ([], false)

theorem implUnp_end (l acc : List Int) (i : Int) (hl : l.length ≤ 100000) (ha : acc.length ≤ 100000) (k : Nat) (hk : 200000 ≤ k) : impl_UnpointBytes.j1 k l acc i false = some (iOf l (some acc)) := by
  obtain ⟨k, rfl⟩ : ∃ j, k = j + 1 := ⟨k - 1, by omega⟩
  simp only [impl_UnpointBytes.j1, Bool.false_eq_true, if_false]
  rw [bytesOk_some acc (by omega)]
  simp only [Option.bind_some, iOf]
  cases h : okB acc
  · simp
  · have := pointOf_le acc
    rw [if_pos rfl, implPoint_some acc (by omega) k (by omega), Option.bind_some, Equal_some _ _ (by omega) k (by omega), Option.bind_some]
    by_cases e : pointOf acc = l <;> simp [e]

theorem implUnp_l0 (l : List Int) (hl : l.length ≤ 10000) : ∀ (d j k : Nat) (acc : List Int), l.length - j ≤ d → j ≤ l.length → 200010 + 3 * d ≤ k → acc.length ≤ 2 * j →
    impl_UnpointBytes.l0 k l acc (j : Int) = some (iOf l (idec (d + 1) (decide (j = 0)) acc (l.drop j))) := by
  intro d
  induction d with
  | zero =>
    intro j k acc hd hj hk ha
    obtain ⟨k, rfl⟩ : ∃ m, k = m + 1 := ⟨k - 1, by omega⟩
    simp only [impl_UnpointBytes.l0]
    rw [if_neg (by omega), implUnp_end l acc _ (by omega) (by omega) k (by omega), List.drop_eq_nil_of_le (by omega)]
    rfl
  | succ d ih =>
    intro j k acc hd hj hk ha
    obtain ⟨k, rfl⟩ : ∃ m, k = m + 3 := ⟨k - 3, by omega⟩
    simp only [impl_UnpointBytes.l0]
    by_cases h1 : j < l.length
    · rw [if_pos (by omega), List.drop_eq_getElem_cons h1]
      simp only [idec]
      by_cases h2 : acc.length ≤ 16
      · rw [decide_eq_true (by omega : (acc.length : Int) ≤ 16), if_pos h2]
        simp only [impl_UnpointBytes.j1, if_true]
        rw [if_pos (by omega), if_pos (by omega), rd_nat l j h1]
        have hdl : (l.drop (j + 1)).length = l.length - (j + 1) := List.length_drop
        by_cases c1 : l[j] < 1
        · rw [if_pos c1, if_pos (Or.inl c1)]; simp only [impl_UnpointBytes.j2, if_true]; rfl
        · rw [if_neg c1]
          by_cases c2 : l[j] > 17
          · rw [if_pos c2, if_pos (Or.inr (Or.inl c2))]; simp only [impl_UnpointBytes.j2, if_true]; rfl
          · rw [if_neg c2, w64 (n := (j : Int) + l[j]) (by omega) (by omega)]
            by_cases c3 : (j : Int) + l[j] > (l.length : Int)
            · rw [decide_eq_true c3, if_pos (Or.inr (Or.inr (by omega)))]; simp only [impl_UnpointBytes.j2, if_true]; rfl
            · rw [decide_eq_false c3, if_neg (by omega)]
              simp only [impl_UnpointBytes.j2, Bool.false_eq_true, if_false, bsome]
              have e0 : wrap64 ((j : Int) + 1) = (j : Int) + 1 := w64 (by omega) (by omega)
              have e1 : wrap64 ((j : Int) + l[j]) = (j : Int) + l[j] := w64 (by omega) (by omega)
              have e2 : ((l.take ((j : Int) + l[j]).toNat).drop ((j : Int) + 1).toNat) = (l.drop (j + 1)).take (l[j] - 1).toNat := by
                rw [List.drop_take, show ((j : Int) + 1).toNat = j + 1 by omega, show ((j : Int) + l[j]).toNat - (j + 1) = (l[j] - 1).toNat by omega]
              have e3 : (l.drop (j + 1)).drop (l[j] - 1).toNat = l.drop ((j : Int) + l[j]).toNat := by rw [List.drop_drop, show (j + 1) + (l[j] - 1).toNat = ((j : Int) + l[j]).toNat by omega]
              have e4 : ((l.drop (j + 1)).take (l[j] - 1).toNat).length = (l[j] - 1).toNat := by rw [List.length_take, hdl]; omega
              rw [e0, e1, e2, e3]
              have g := ih ((j : Int) + l[j]).toNat k
              have e5 : ((((j : Int) + l[j]).toNat : Nat) : Int) = (j : Int) + l[j] := by omega
              rw [e5] at g
              have e6 : decide (((j : Int) + l[j]).toNat = 0) = false := by rw [decide_eq_false_iff_not]; omega
              rw [e6] at g
              by_cases hj0 : j = 0
              · rw [if_neg (by omega), if_pos (by omega), if_pos (by omega), if_pos (by omega), if_pos (by rw [e4]; omega), g _ (by omega) (by omega) (by omega) (by rw [List.length_append, e4]; omega)]
                simp [hj0]
              · rw [if_pos (by omega), if_pos (by omega), if_pos (by omega), if_pos (by omega), if_pos (by omega), if_pos (by rw [e4]; simp; omega), g _ (by omega) (by omega) (by omega) (by rw [List.length_append, e4]; simp; omega)]
                simp [hj0]
      · rw [decide_eq_false (by omega : ¬ (acc.length : Int) ≤ 16), implUnp_end l acc _ (by omega) (by omega) (k + 2) (by omega), if_neg h2]
    · rw [if_neg (by omega), implUnp_end l acc _ (by omega) (by omega) (k + 2) (by omega), List.drop_eq_nil_of_le (by omega)]
      rfl

theorem implUnp_some (l : List Int) (hl : l.length ≤ 10000) (k : Nat) (hk : 300000 ≤ k) : impl_UnpointBytes.f k l = some (iOf l (idec (l.length + 1) true [] l)) := by
  have := implUnp_l0 l hl l.length 0 k [] (by omega) (by omega) (by omega) (by simp)
  unfold impl_UnpointBytes.f
  simpa using this

/-- How the reference reads groups. -/
def gdec : Nat → List Int → List Int → Option (List Int)
  | 0, _, _ => none
  | _ + 1, acc, [] => some acc
  | f + 1, acc, n :: r => if n = 0 ∨ (r.length : Int) + 1 < n then none else if (r.take (n - 1).toNat).contains 0 = true then none else gdec f (acc ++ r.take (n - 1).toNat ++ (if r.drop (n - 1).toNat = [] then [] else [0])) (r.drop (n - 1).toNat)

def gOf : Option (List Int) → List Int × Bool
  | none => ([], false)
  | some out => (out, true)

/-- The inner loop: a group is taken, if it has no nought. -/
theorem specUnp_l1 (l : List Int) (hl : l.length ≤ 10000) (i n : Int) (h0 : 0 ≤ i) (hn : 0 ≤ n) (hin : i + n ≤ l.length) : ∀ (d j k : Nat) (acc : List Int), (i + n).toNat - j = d → (j : Int) ≤ i + n → acc.length + d ≤ 1000000 →
    spec_UnpointBytes.l1 (k + d + 1) l acc i n (j : Int) = if ((l.drop j).take d).contains 0 = true then some ([], false) else spec_UnpointBytes.l1 (k + 1) l (acc ++ (l.drop j).take d) i n (i + n) := by
  intro d
  induction d with
  | zero =>
    intro j k acc hd hj ha
    have : (j : Int) = i + n := by omega
    rw [this]; simp
  | succ d ih =>
    intro j k acc hd hj ha
    rw [show k + (d + 1) + 1 = (k + d + 1) + 1 by omega]
    rw [spec_UnpointBytes.l1, w64 (n := i + n) (by omega) (by omega), if_pos (by omega), if_pos (by omega), if_pos (by omega), rd_nat l j (by omega), List.drop_eq_getElem_cons (by omega : j < l.length), List.take_succ_cons]
    by_cases c : l[j] = 0
    · rw [if_pos c, if_pos (by simp [c])]
    · rw [if_neg c, if_pos (by omega), w64s (by omega), ih (j + 1) k _ (by omega) (by omega) (by simp; omega)]
      have e : (l[j] :: (l.drop (j + 1)).take d).contains 0 = ((l.drop (j + 1)).take d).contains 0 := by
        rw [List.contains_cons]
        have : ((0 : Int) == l[j]) = false := by simp; exact fun e => c e.symm
        rw [this, Bool.false_or]
      rw [e]
      split
      · rfl
      · simp

theorem specUnp_l0 (l : List Int) (hl : l.length ≤ 10000) (hb : l.all inB = true) : ∀ (d j k : Nat) (acc : List Int), l.length - j ≤ d → j ≤ l.length → (l.length + 4) * d + 4 ≤ k → acc.length ≤ 2 * j →
    spec_UnpointBytes.l0 k l acc (j : Int) = some (gOf (gdec (d + 1) acc (l.drop j))) := by
  intro d
  induction d with
  | zero =>
    intro j k acc hd hj hk ha
    obtain ⟨k, rfl⟩ : ∃ m, k = m + 1 := ⟨k - 1, by omega⟩
    simp only [spec_UnpointBytes.l0]
    rw [if_neg (by omega), List.drop_eq_nil_of_le (by omega)]
    rfl
  | succ d ih =>
    intro j k acc hd hj hk ha
    rw [Nat.mul_succ] at hk
    obtain ⟨k, rfl⟩ : ∃ m, k = m + 2 := ⟨k - 2, by omega⟩
    simp only [spec_UnpointBytes.l0]
    by_cases h1 : j < l.length
    · have hbj : 0 ≤ l[j] ∧ l[j] ≤ 255 := by
        have := List.all_eq_true.1 hb _ (List.getElem_mem h1)
        simpa [inB] using this
      have hdl : (l.drop (j + 1)).length = l.length - (j + 1) := List.length_drop
      rw [if_pos (by omega), if_pos (by omega), rd_nat l j h1, List.drop_eq_getElem_cons h1]
      simp only [gdec]
      by_cases c1 : l[j] = 0
      · rw [if_pos c1, if_pos (Or.inl c1)]; simp only [spec_UnpointBytes.j2, if_true]; rfl
      · rw [if_neg c1, w64 (n := (j : Int) + l[j]) (by omega) (by omega)]
        by_cases c3 : (j : Int) + l[j] > (l.length : Int)
        · rw [decide_eq_true c3, if_pos (Or.inr (by omega))]; simp only [spec_UnpointBytes.j2, if_true]; rfl
        · rw [decide_eq_false c3, if_neg (by omega)]
          simp only [spec_UnpointBytes.j2, Bool.false_eq_true, if_false]
          rw [w64s (by omega)]
          obtain ⟨q, hq⟩ : ∃ q, k = q + (l[j] - 1).toNat + 1 := ⟨k - (l[j] - 1).toNat - 1, by omega⟩
          rw [hq, specUnp_l1 l hl (j : Int) l[j] (by omega) hbj.1 (by omega) (l[j] - 1).toNat (j + 1) q acc (by omega) (by omega) (by omega)]
          by_cases c4 : ((l.drop (j + 1)).take (l[j] - 1).toNat).contains 0 = true
          · rw [if_pos c4, if_pos c4]; rfl
          · rw [if_neg c4, if_neg c4, spec_UnpointBytes.l1, w64 (n := (j : Int) + l[j]) (by omega) (by omega), if_neg (by omega)]
            have e3 : (l.drop (j + 1)).drop (l[j] - 1).toNat = l.drop ((j : Int) + l[j]).toNat := by rw [List.drop_drop, show (j + 1) + (l[j] - 1).toNat = ((j : Int) + l[j]).toNat by omega]
            have e4 : ((l.drop (j + 1)).take (l[j] - 1).toNat).length = (l[j] - 1).toNat := by rw [List.length_take, hdl]; omega
            have e5 : ((((j : Int) + l[j]).toNat : Nat) : Int) = (j : Int) + l[j] := by omega
            have g := ih ((j : Int) + l[j]).toNat q
            rw [e5] at g
            rw [e3]
            by_cases c5 : (j : Int) + l[j] < (l.length : Int)
            · have : l.drop ((j : Int) + l[j]).toNat ≠ [] := by rw [Ne, List.drop_eq_nil_iff]; omega
              rw [if_pos c5, if_pos (by rw [List.length_append, e4]; omega), if_neg this, g _ (by omega) (by omega) (by omega) (by rw [List.length_append, List.length_append, e4]; simp; omega)]
            · have : l.drop ((j : Int) + l[j]).toNat = [] := List.drop_eq_nil_of_le (by omega)
              rw [if_neg c5, if_pos this, g _ (by omega) (by omega) (by omega) (by rw [List.length_append, e4]; omega)]
              simp
    · rw [if_neg (by omega), List.drop_eq_nil_of_le (by omega)]
      rfl

def specUnpOf (l : List Int) : List Int × Bool := if l ≠ [] ∧ l.all inB = true ∧ l.length ≤ 17 then gOf (gdec (l.length + 1) [] l) else ([], false)

theorem specUnp_some (l : List Int) (hl : l.length ≤ 10000) (k : Nat) (hk : 20000 ≤ k) : spec_UnpointBytes.f k l = some (specUnpOf l) := by
  unfold spec_UnpointBytes.f specUnpOf
  obtain ⟨k, rfl⟩ : ∃ m, k = m + 1 := ⟨k - 1, by omega⟩
  by_cases h0 : l = []
  · subst h0; simp [spec_UnpointBytes.j0]
  · have : ¬ (l.length : Int) = 0 := fun e => h0 (List.length_eq_zero_iff.1 (by omega))
    rw [if_neg this, validBytes_some l 17 (by omega) (k + 1) (by omega), Option.bind_some]
    by_cases h1 : l.all inB = true ∧ l.length ≤ 17
    · have : (l.all inB && decide ((l.length : Int) ≤ 17)) = true := by rw [h1.1, Bool.true_and, decide_eq_true_eq]; omega
      rw [this, if_pos ⟨h0, h1⟩]
      simp only [spec_UnpointBytes.j0, Bool.not_true, Bool.false_eq_true, if_false]
      have hq : (l.length + 4) * l.length ≤ 21 * 17 := Nat.mul_le_mul (by omega) h1.2
      have := specUnp_l0 l hl h1.1 l.length 0 k [] (by omega) (by omega) (by omega) (by simp)
      simpa using this
    · have : (l.all inB && decide ((l.length : Int) ≤ 17)) = false := by
        rw [Bool.and_eq_false_iff]
        by_cases h2 : l.all inB = true
        · right; have : ¬ l.length ≤ 17 := fun e => h1 ⟨h2, e⟩; simp; omega
        · left; simpa using h2
      rw [this, if_neg (fun e => h1 e.2)]
      simp only [spec_UnpointBytes.j0, Bool.not_false, if_true]

theorem pt_group : ∀ (h g t : List Int), 0 ∉ h → pt g (h ++ 0 :: t) = (((g ++ h).length : Int) + 1) :: ((g ++ h) ++ pt [] t) := by
  intro h
  induction h with
  | nil => intro g t _; simp [pt]
  | cons x h ih =>
    intro g t hh
    simp only [List.mem_cons, not_or] at hh
    simp only [List.cons_append, pt]
    rw [if_neg (fun e => hh.1 e.symm), ih _ _ hh.2]
    simp
theorem pt_last : ∀ (h g : List Int), 0 ∉ h → pt g h = (((g ++ h).length : Int) + 1) :: (g ++ h) := by
  intro h
  induction h with
  | nil => intro g _; simp [pt]
  | cons x h ih =>
    intro g hh
    simp only [List.mem_cons, not_or] at hh
    simp only [pt]
    rw [if_neg (fun e => hh.1 e.symm), ih _ hh.2]
    simp
theorem split0 : ∀ l : List Int, (0 ∉ l) ∨ ∃ h t, 0 ∉ h ∧ l = h ++ 0 :: t := by
  intro l
  induction l with
  | nil => left; simp
  | cons x l ih =>
    by_cases hx : x = 0
    · right; exact ⟨[], l, by simp, by simp [hx]⟩
    · rcases ih with h | ⟨h, t, h1, h2⟩
      · left; simp only [List.mem_cons, not_or]; exact ⟨fun e => hx e.symm, h⟩
      · right; refine ⟨x :: h, t, ?_, by rw [h2]; rfl⟩
        simp only [List.mem_cons, not_or]; exact ⟨fun e => hx e.symm, h1⟩

theorem idec_pt : ∀ (n : Nat) (l : List Int) (first : Bool) (acc : List Int) (f : Nat), l.length ≤ n → n + 2 ≤ f → acc.length + l.length + 1 ≤ 17 → idec f first acc (pt [] l) = some ((if first = true then acc else acc ++ [0]) ++ l) := by
  intro n
  induction n with
  | zero =>
    intro l first acc f hl hf ha
    have : l = [] := List.length_eq_zero_iff.1 (by omega)
    subst this
    obtain ⟨f, rfl⟩ : ∃ m, f = m + 2 := ⟨f - 2, by omega⟩
    simp only [pt, List.length_nil, idec]
    rw [if_pos (by omega), if_neg (by simp)]
    simp [idec]
  | succ n ih =>
    intro l first acc f hl hf ha
    obtain ⟨f, rfl⟩ : ∃ m, f = m + 1 := ⟨f - 1, by omega⟩
    rcases split0 l with h | ⟨h, t, h1, rfl⟩
    · rw [pt_last l [] h, List.nil_append]
      simp only [idec]
      rw [if_pos (by omega), if_neg (by omega)]
      obtain ⟨f, rfl⟩ : ∃ m, f = m + 1 := ⟨f - 1, by omega⟩
      have e : ((l.length : Int) + 1 - 1).toNat = l.length := by omega
      rw [e, List.take_length, List.drop_length]
      rfl
    · rw [pt_group h [] t h1, List.nil_append]
      simp only [List.length_append, List.length_cons] at hl ha
      simp only [idec]
      rw [if_pos (by omega), if_neg (by simp; omega)]
      have e : ((h.length : Int) + 1 - 1).toNat = h.length := by omega
      rw [e, List.take_left, List.drop_left, ih t false _ f (by omega) (by omega) (by split <;> simp <;> omega)]
      simp

theorem gdec_pt : ∀ (n : Nat) (l : List Int) (acc : List Int) (f : Nat), l.length ≤ n → n + 2 ≤ f → gdec f acc (pt [] l) = some (acc ++ l) := by
  intro n
  induction n with
  | zero =>
    intro l acc f hl hf
    have : l = [] := List.length_eq_zero_iff.1 (by omega)
    subst this
    obtain ⟨f, rfl⟩ : ∃ m, f = m + 2 := ⟨f - 2, by omega⟩
    simp [pt, gdec]
  | succ n ih =>
    intro l acc f hl hf
    obtain ⟨f, rfl⟩ : ∃ m, f = m + 1 := ⟨f - 1, by omega⟩
    rcases split0 l with h | ⟨h, t, h1, rfl⟩
    · rw [pt_last l [] h, List.nil_append]
      simp only [gdec]
      have e : ((l.length : Int) + 1 - 1).toNat = l.length := by omega
      rw [if_neg (by omega), e, List.take_length, List.drop_length, if_neg (by simpa using h), if_pos rfl]
      obtain ⟨f, rfl⟩ : ∃ m, f = m + 1 := ⟨f - 1, by omega⟩
      simp [gdec]
    · rw [pt_group h [] t h1, List.nil_append]
      simp only [List.length_append, List.length_cons] at hl
      simp only [gdec]
      have e : ((h.length : Int) + 1 - 1).toNat = h.length := by omega
      have hne : pt [] t ≠ [] := fun e => by have := pt_le t []; rw [e] at this; simp at this
      rw [if_neg (by simp; omega), e, List.take_left, List.drop_left, if_neg (by simpa using h1), if_neg hne, ih t _ f (by omega) (by omega)]
      simp

theorem gdec_back : ∀ (f : Nat) (l acc out : List Int), l ≠ [] → l.all inB = true → gdec f acc l = some out → ∃ t, out = acc ++ t ∧ l = pt [] t ∧ t.all inB = true := by
  intro f
  induction f with
  | zero => intro l acc out _ _ h; simp [gdec] at h
  | succ f ih =>
    intro l acc out hne hb h
    cases l with
    | nil => exact absurd rfl hne
    | cons n r =>
      simp only [gdec] at h
      simp only [List.all_cons, Bool.and_eq_true] at hb
      have hn : 0 ≤ n := by have := hb.1; simp [inB] at this; omega
      split at h
      · cases h
      · rename_i c1
        split at h
        · cases h
        · rename_i c2
          have hh : 0 ∉ r.take (n - 1).toNat := by simpa using c2
          have hl : (r.take (n - 1).toNat).length = (n - 1).toNat := by rw [List.length_take]; omega
          have hsplit : r = r.take (n - 1).toNat ++ r.drop (n - 1).toNat := (List.take_append_drop _ _).symm
          have hbt : (r.take (n - 1).toNat).all inB = true ∧ (r.drop (n - 1).toNat).all inB = true := by
            have := hb.2; rw [hsplit, List.all_append, Bool.and_eq_true] at this; exact this
          generalize hd : r.drop (n - 1).toNat = d at h hsplit hbt
          generalize ht : r.take (n - 1).toNat = u at h hsplit hbt hh hl
          subst hsplit
          by_cases c3 : d = []
          · subst c3
            rw [if_pos rfl] at h
            cases f with
            | zero => simp [gdec] at h
            | succ f =>
              simp only [gdec, List.append_nil, Option.some.injEq] at h
              refine ⟨u, h.symm, ?_, hbt.1⟩
              rw [pt_last u [] hh, List.nil_append, List.append_nil]
              congr 1; omega
          · rw [if_neg c3] at h
            obtain ⟨t, a, b, c⟩ := ih d _ _ c3 hbt.2 h
            refine ⟨u ++ 0 :: t, by rw [a]; simp, ?_, ?_⟩
            · rw [pt_group u [] t hh, List.nil_append, ← b]
              congr 1; omega
            · rw [List.all_append, hbt.1, List.all_cons, c]; decide

theorem inB_pt : ∀ (l g : List Int), g.all inB = true → l.all inB = true → g.length + l.length ≤ 200 → (pt g l).all inB = true := by
  intro l
  induction l with
  | nil => intro g hg _ hs; simp only [pt, List.all_cons, hg, Bool.and_true]; simp [inB] at *; omega
  | cons x l ih =>
    intro g hg hl hs
    simp only [List.all_cons, Bool.and_eq_true] at hl
    simp only [List.length_cons] at hs
    simp only [pt]
    split
    · rw [List.all_append, List.all_cons, hg, ih [] rfl hl.2 (by simp; omega)]
      simp [inB]; omega
    · exact ih _ (by rw [List.all_append, hg]; simp [hl.1]) hl.2 (by simp; omega)

theorem unp_agree (l : List Int) : iOf l (idec (l.length + 1) true [] l) = specUnpOf l := by
  by_cases hx : ∃ out, okB out = true ∧ l = pt [] out
  · obtain ⟨out, ho, rfl⟩ := hx
    have ho' := ho
    simp only [okB, Bool.and_eq_true, decide_eq_true_eq] at ho'
    have hl := pt_le out []
    simp only [List.length_nil, Nat.zero_add] at hl
    have hne : pt [] out ≠ [] := fun e => by rw [e] at hl; simp at hl
    unfold specUnpOf
    rw [hl, idec_pt out.length out true [] _ (Nat.le_refl _) (by omega) (by simp; omega), gdec_pt out.length out [] _ (Nat.le_refl _) (by omega)]
    simp only [iOf, gOf, if_true, List.nil_append]
    have hp : pointOf out = pt [] out := by unfold pointOf; rw [if_pos ho]
    rw [if_pos ⟨ho, hp⟩, if_pos (⟨hne, inB_pt out [] rfl ho'.2 (by simp; omega), by omega⟩ : pt [] out ≠ [] ∧ (pt [] out).all inB = true ∧ out.length + 1 ≤ 17)]
  · have h1 : iOf l (idec (l.length + 1) true [] l) = ([], false) := by
      cases idec (l.length + 1) true [] l with
      | none => rfl
      | some out =>
        simp only [iOf]
        rw [if_neg]
        rintro ⟨a, b⟩
        unfold pointOf at b
        rw [if_pos a] at b
        exact hx ⟨out, a, b.symm⟩
    rw [h1]
    unfold specUnpOf
    split
    · rename_i h
      obtain ⟨a, b, c⟩ := h
      cases hs : gdec (l.length + 1) [] l with
      | none => rfl
      | some out =>
        exfalso
        obtain ⟨t, u, v, w⟩ := gdec_back _ l [] out a b hs
        rw [List.nil_append] at u
        subst u
        refine hx ⟨out, ?_, v⟩
        have := pt_le out []
        rw [← v] at this
        simp only [List.length_nil] at this
        simp only [okB, Bool.and_eq_true, decide_eq_true_eq]
        exact ⟨by omega, w⟩
    · rfl

theorem drawUnp_some (code : List Int) (h : ∀ x ∈ code, (Lit.int .u8 x).wf = true) : ∃ l, (∀ k, 3000 ≤ k → spec_DrawUnpointBytes.f k code = some l) ∧ l.length ≤ 1000 := by
  obtain ⟨b, hb, hR⟩ := newReader_some code h
  obtain ⟨r, p1, e1, e2, e3⟩ := someBytes_some hR (by omega) 16
  have e4 := pointOf_le r
  obtain ⟨l, p2, f1, f2, f3⟩ := bent_some e3 (by omega) (pointOf r) (by omega)
  refine ⟨l, fun k hk => ?_, by omega⟩
  unfold spec_DrawUnpointBytes.f
  rw [hb]
  simp only [bsome]
  rw [e1 k (by omega)]
  simp only [bsome]
  rw [specPoint_some r (by omega) k (by omega)]
  simp only [bsome]
  rw [f1 k (by omega)]
  rfl

theorem FnUnpointBytes : laws_FnUnpointBytes.Pure := by
  intro code hm hs hw
  by_cases hlong : (code.length : Int) > 1048576
  · exact ⟨0, by unfold laws_FnUnpointBytes.f; rw [if_pos hlong]⟩
  · obtain ⟨l, hl, hlen⟩ := drawUnp_some code hw
    refine ⟨5000001, ?_⟩
    unfold laws_FnUnpointBytes.f
    rw [if_neg hlong, hl _ (by omega)]
    simp only [bsome]
    rw [implUnp_some l (by omega) _ (by omega)]
    simp only [bsome]
    rw [specUnp_some l (by omega) _ (by omega)]
    simp only [bsome]
    rw [unp_agree l]
    rw [← unp_agree l]
    generalize hq : iOf l (idec (l.length + 1) true [] l) = q
    have hu : q.2 = true → okB q.1 = true ∧ pointOf q.1 = l := by
      rw [← hq]
      cases idec (l.length + 1) true [] l with
      | none => intro e; cases e
      | some out =>
        simp only [iOf]
        split
        · rename_i h; intro _; exact h
        · intro e; cases e
    have hql : q.1.length ≤ 1000 := by
      cases h2 : q.2 with
      | true => have := (hu h2).1; simp only [okB, Bool.and_eq_true, decide_eq_true_eq] at this; omega
      | false =>
        rw [← hq] at h2 ⊢
        cases h3 : idec (l.length + 1) true [] l with
        | none => simp [iOf]
        | some out =>
          rw [h3] at h2
          simp only [iOf] at h2 ⊢
          split
          · rename_i h; rw [if_pos h] at h2; cases h2
          · simp
    rw [equalInts_some q.1 q.1 (by omega) _ (by omega)]
    simp only [bsome, decide_true, if_true, bne_self_eq_false, Bool.false_eq_true, if_false]
    simp only [laws_FnUnpointBytes.j0]
    cases h2 : q.2
    · simp only [Bool.not_false, if_true]
      rw [equalInts_some q.1 q.1 (by omega) _ (by omega)]
      simp
    · simp only [Bool.not_true, Bool.false_eq_true, if_false]
      rw [implPoint_some q.1 (by omega) _ (by omega), bsome, (hu h2).2, equalInts_some l l (by omega) _ (by omega)]
      simp

end Go.Proofs.Ytkfbmpllbcladaa.Pure
