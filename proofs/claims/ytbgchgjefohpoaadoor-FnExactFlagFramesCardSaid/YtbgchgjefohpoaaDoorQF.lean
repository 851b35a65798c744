/- Frames on a wire: both programs. -/
import Derived.Test.YtbgchgjefohpoaaDoorPx14
import Derived.Test.YtbgchgjefohpoaaDoorPx15
import Derived.Test.YtbgchgjefohpoaaDoorPx16
import Derived.Test.YtbgchgjefohpoaaDoorPx5
import Derived.Test.YtbgchgjefohpoaaDoorPx9
import Derived.Test.YtbgchgjefohpoaaDoorQU
namespace Go.Proofs.YtbgchgjefohpoaaDoor.Pure
open Go.RowKit Go.Proofs.YtbgchgjefohpoaaDoor.P Go.Proofs.YtbgchgjefohpoaaDoorW.PrintWords Go.Proofs.YtbgchgjefohpoaaDoorW.PrintLast
set_option linter.unusedVariables false
set_option linter.unusedSimpArgs false

/-! Rows of ones in stuffed bits. -/
def rok : Int → List Int → Bool
  | _, [] => true
  | n, c :: r => if (if c = 48 then (0 : Int) else n + 1) > 5 then false else rok (if c = 48 then 0 else n + 1) r
theorem rok_stf : ∀ (l : List Int) (n : Int), l.all isBit = true → 0 ≤ n → n ≤ 4 → rok n (stf n l) = true
  | [], n, h, h0, h1 => by simp [stf, rok]
  | c :: r, n, h, h0, h1 => by
    simp only [List.all_cons, Bool.and_eq_true] at h
    unfold stf
    by_cases hc : c = 49
    · subst hc
      rw [if_pos rfl]
      by_cases h5 : n + 1 = 5
      · rw [if_pos h5, rok, if_neg (show ¬ (49 : Int) = 48 by decide), if_neg (show ¬ n + 1 > 5 by omega), rok, if_pos rfl, if_neg (show ¬ (0 : Int) > 5 by decide), rok_stf r 0 h.2 (by omega) (by omega)]
      · rw [if_neg h5, rok, if_neg (show ¬ (49 : Int) = 48 by decide), if_neg (show ¬ n + 1 > 5 by omega), rok_stf r (n + 1) h.2 (by omega) (by omega)]
    · have h48 : c = 48 := by
        have := (isBit_iff c).1 h.1
        omega
      rw [if_neg hc, rok, if_pos h48, if_neg (show ¬ (0 : Int) > 5 by decide), rok_stf r 0 h.2 (by omega) (by omega)]

/-! What stands between flags: cut as strings.Split cuts, and found from the left on. -/
section
variable {α : Type} [BEq α]
def pcs (F : List α) : Nat → List α → List α → List (List α)
  | 0, cur, l => [cur ++ l]
  | _ + 1, cur, [] => [cur]
  | n + 1, cur, c :: r => if F.isPrefixOf (c :: r) = true then cur :: pcs F n [] ((c :: r).drop F.length) else pcs F n (cur ++ [c]) r
theorem pcs_cur (F : List α) : ∀ (n : Nat) (cur l : List α), l.length < n → ∃ p ps, pcs F n [] l = p :: ps ∧ pcs F n cur l = (cur ++ p) :: ps := by
  intro n
  induction n with
  | zero => intro cur l h; omega
  | succ n ih =>
    intro cur l h
    match l, h with
    | [], _ => exact ⟨[], [], rfl, by simp [pcs]⟩
    | c :: r, h =>
      simp only [List.length_cons] at h
      unfold pcs
      by_cases hp : F.isPrefixOf (c :: r) = true
      · rw [if_pos hp, if_pos hp]
        exact ⟨[], _, rfl, by simp⟩
      · rw [if_neg hp, if_neg hp]
        obtain ⟨p, ps, h1, h2⟩ := ih (cur ++ [c]) r (by omega)
        obtain ⟨p', ps', h3, h4⟩ := ih ([] ++ [c]) r (by omega)
        rw [h1] at h3
        cases h3
        exact ⟨_, _, h4, by rw [h2]; simp⟩
theorem pcs_fuel (F : List α) (hF : F ≠ []) : ∀ (n m : Nat) (cur l : List α), l.length < n → l.length < m → pcs F n cur l = pcs F m cur l := by
  intro n
  induction n with
  | zero => intro m cur l h; omega
  | succ n ih =>
    intro m cur l h hm
    obtain ⟨m, rfl⟩ : ∃ q, m = q + 1 := ⟨m - 1, by omega⟩
    match l, h, hm with
    | [], _, _ => rfl
    | c :: r, h, hm =>
      simp only [List.length_cons] at h hm
      unfold pcs
      by_cases hp : F.isPrefixOf (c :: r) = true
      · have h0 : F.length ≠ 0 := fun e => hF (List.length_eq_zero_iff.1 e)
        rw [if_pos hp, if_pos hp, ih m [] _ (by rw [List.length_drop, List.length_cons]; omega) (by rw [List.length_drop, List.length_cons]; omega)]
      · rw [if_neg hp, if_neg hp, ih m _ r (by omega) (by omega)]
/-- Nothing to be found in too little. -/
theorem pcs_short [LawfulBEq α] (F : List α) : ∀ (n : Nat) (cur l : List α), l.length < F.length → l.length < n → pcs F n cur l = [cur ++ l] := by
  intro n
  induction n with
  | zero => intro cur l h hn; omega
  | succ n ih =>
    intro cur l h hn
    match l, h, hn with
    | [], _, _ => simp [pcs]
    | c :: r, h, hn =>
      have hp : ¬ F.isPrefixOf (c :: r) = true := by
        rw [List.isPrefixOf_iff_prefix]
        intro hp
        have := hp.length_le
        omega
      simp only [List.length_cons] at h hn
      unfold pcs
      rw [if_neg hp, ih (cur ++ [c]) r (by omega) (by omega)]
      simp
end
theorem pcs_map {α β : Type} [BEq α] [LawfulBEq α] [BEq β] [LawfulBEq β] (f : α → β) (hf : ∀ x y, f x = f y → x = y) (F : List α) : ∀ (n : Nat) (cur l : List α), pcs (F.map f) n (cur.map f) (l.map f) = (pcs F n cur l).map (List.map f) := by
  have hpre : ∀ l : List α, (F.map f).isPrefixOf (l.map f) = F.isPrefixOf l := by
    induction F with
    | nil => intro l; simp [List.isPrefixOf]
    | cons a F ih =>
      intro l
      cases l with
      | nil => rfl
      | cons b l =>
        simp only [List.map_cons, List.isPrefixOf, ih]
        congr 1
        rw [Bool.eq_iff_iff]
        simp only [beq_iff_eq]
        exact ⟨fun h => hf _ _ h, fun h => by rw [h]⟩
  intro n
  induction n with
  | zero => intro cur l; simp [pcs]
  | succ n ih =>
    intro cur l
    cases l with
    | nil => rfl
    | cons c r =>
      simp only [List.map_cons, pcs]
      have := hpre (c :: r)
      simp only [List.map_cons] at this
      rw [this]
      by_cases hp : F.isPrefixOf (c :: r) = true
      · rw [if_pos hp, if_pos hp, List.length_map, ← List.map_cons, ← List.map_drop, List.map_cons, show ([] : List β) = ([] : List α).map f from rfl, ih]
      · rw [if_neg hp, if_neg hp, ← ih]
        simp
theorem split_hit {s F : List UInt8} {i : Nat} (hF : F ≠ []) (h : Lib.index s F = i) : Lib.split s F = s.take i :: Lib.split (s.drop (i + F.length)) F := by
  unfold Lib.split
  rw [Lib.count_hit hF h, Nat.add_comm 1, Lib.splitK, h, if_neg (by simp)]
  simp
theorem split_miss {s F : List UInt8} (h : Lib.index s F = -1) : Lib.split s F = [s] := by
  unfold Lib.split
  rw [Lib.count_miss h]
  rfl
theorem pcs_split (F : List UInt8) (hF : F ≠ []) : ∀ (n : Nat) (l : List UInt8), l.length < n → pcs F n [] l = Lib.split l F := by
  intro n
  induction n with
  | zero => intro l h; omega
  | succ n ih =>
    intro l h
    match l, h with
    | [], _ =>
      rw [split_miss (by
        unfold Lib.index
        cases F with
        | nil => exact absurd rfl hF
        | cons a b => rfl)]
      rfl
    | c :: r, h =>
      simp only [List.length_cons] at h
      unfold pcs
      by_cases hp : F.isPrefixOf (c :: r) = true
      · rw [if_pos hp, split_hit (i := 0) hF (by rw [Lib.index, if_pos hp]; rfl), List.take_zero, Nat.zero_add,
          ih _ (by rw [List.length_drop, List.length_cons]; have : F.length ≠ 0 := fun e => hF (List.length_eq_zero_iff.1 e); omega)]
      · rw [if_neg hp]
        obtain ⟨p, ps, h1, h2⟩ := pcs_cur F n ([] ++ [c]) r (by omega)
        rw [h2]
        rw [ih r (by omega)] at h1
        have hge := Lib.index_ge r F
        by_cases hm : Lib.index r F = -1
        · rw [split_miss hm] at h1
          cases h1
          rw [split_miss (by rw [Lib.index, if_neg hp, hm]; rfl)]
          rfl
        · obtain ⟨j, hj⟩ : ∃ j : Nat, Lib.index r F = j := ⟨(Lib.index r F).toNat, by omega⟩
          rw [split_hit hF hj] at h1
          cases h1
          rw [split_hit (s := c :: r) (i := j + 1) hF (by rw [Lib.index, if_neg hp, if_neg (by simpa using hm), hj]; rfl)]
          simp [show j + 1 + F.length = (j + F.length) + 1 by omega]
/-- The flag. -/
def FL : List Int := [48, 49, 49, 49, 49, 49, 49, 48]
theorem noF (m : Int) (hm : 0 ≤ m) (c : Int) (r rest : List Int) (h : rok m (c :: r) = true) : FL.isPrefixOf (c :: (r ++ (FL ++ rest))) = false := by
  cases hp : FL.isPrefixOf (c :: (r ++ (FL ++ rest))) with
  | false => rfl
  | true =>
    exfalso
    rw [List.isPrefixOf_iff_prefix] at hp
    obtain ⟨t, ht⟩ := hp
    match r, h, ht with
    | [], h, ht => simp [FL] at ht
    | [a], h, ht => simp [FL] at ht
    | [a, b], h, ht => simp [FL] at ht
    | [a, b, d], h, ht => simp [FL] at ht
    | [a, b, d, e], h, ht => simp [FL] at ht
    | [a, b, d, e, f], h, ht => simp [FL] at ht
    | a :: b :: d :: e :: f :: g :: r, h, ht =>
      simp only [FL, List.cons_append, List.nil_append, List.cons.injEq] at ht
      obtain ⟨rfl, rfl, rfl, rfl, rfl, rfl, rfl, _⟩ := ht
      simp [rok] at h
theorem pcs_row : ∀ (w : List Int) (m : Int) (n : Nat) (cur rest : List Int), 0 ≤ m → rok m w = true → (w ++ (FL ++ rest)).length < n → pcs FL n cur (w ++ (FL ++ rest)) = (cur ++ w) :: pcs FL n [] rest := by
  intro w
  induction w with
  | nil =>
    intro m n cur rest hm h hn
    obtain ⟨n, rfl⟩ : ∃ q, n = q + 1 := ⟨n - 1, by omega⟩
    rw [List.nil_append] at hn ⊢
    rw [List.length_append] at hn
    have hF : FL.length = 8 := rfl
    rw [show FL ++ rest = 48 :: ([49, 49, 49, 49, 49, 49, 48] ++ rest) from rfl, pcs, if_pos (by rw [List.isPrefixOf_iff_prefix]; exact ⟨rest, rfl⟩), List.append_nil]
    congr 1
    rw [show (48 :: ([49, 49, 49, 49, 49, 49, 48] ++ rest) : List Int).drop FL.length = rest from rfl]
    exact pcs_fuel FL (by simp [FL]) _ _ _ _ (by omega) (by omega)
  | cons c r ih =>
    intro m n cur rest hm h hn
    obtain ⟨n, rfl⟩ : ∃ q, n = q + 1 := ⟨n - 1, by omega⟩
    have hno := noF m hm c r rest h
    rw [List.cons_append] at hn ⊢
    simp only [List.length_cons] at hn
    rw [pcs, if_neg (by rw [hno]; simp)]
    rw [rok] at h
    have h2 : 0 ≤ (if c = 48 then (0 : Int) else m + 1) ∧ rok (if c = 48 then (0 : Int) else m + 1) r = true := by
      by_cases h6 : (if c = 48 then (0 : Int) else m + 1) > 5
      · rw [if_pos h6] at h; cases h
      · rw [if_neg h6] at h
        refine ⟨?_, h⟩
        split <;> omega
    rw [ih _ n (cur ++ [c]) rest h2.1 h2.2 (by omega), pcs_fuel FL (by simp [FL]) n (n + 1) [] rest (by simp only [List.length_append] at hn; omega) (by simp only [List.length_append] at hn; omega)]
    simp

/-! Frames on a wire: both programs. -/
def FB : ByteArray := tb FL
theorem flag_tb : (⟨#[48, 49, 49, 49, 49, 49, 49, 48]⟩ : ByteArray) = tb FL := rfl
theorem FL_bits : FL.all isBit = true := rfl
theorem FL_ne : FL ≠ [] := by simp [FL]
theorem implU_all (s : ByteArray) (k : Nat) (hk : 3000 ≤ k) : impl_UnstuffBits.f k s = some (uout s) := by
  by_cases hs : s.size ≤ 1000000000
  · exact implU_some s hs k hk
  · obtain ⟨k, rfl⟩ : ∃ m, k = m + 1 := ⟨k - 1, by omega⟩
    unfold impl_UnstuffBits.f
    rw [if_pos (by omega)]
    simp only [impl_UnstuffBits.j0, if_true]
    unfold uout
    rw [if_neg (fun x => by have := x.1; omega)]; rfl
theorem pcs_ne {α : Type} [BEq α] (F : List α) : ∀ (n : Nat) (cur l : List α), pcs F n cur l ≠ []
  | 0, cur, l => by simp [pcs]
  | n + 1, cur, [] => by simp [pcs]
  | n + 1, cur, c :: r => by
    unfold pcs
    split
    · simp
    · exact pcs_ne F n _ r
theorem split_some (s : ByteArray) (hs : s.size ≤ 1000000) : strings_Split.f s (tb FL) = some ((pcs FL (s.size + 1) [] (bl s)).map tb) := by
  unfold strings_Split.f
  rw [if_pos ⟨by omega, by decide⟩]
  congr 1
  have h1 := Lib.splitB_data (tb FL) 0 (Lib.countB s (tb FL)) s
  have h2 : Lib.splitK (tb FL).data.toList 0 (Lib.countB s (tb FL)) s.data.toList = Lib.split s.data.toList (tb FL).data.toList := rfl
  have hlen : s.data.toList.length = s.size := rfl
  have h3 := pcs_split (tb FL).data.toList (by decide) (s.size + 1) s.data.toList (by omega)
  rw [h2, ← h3] at h1
  have h4 := pcs_map (fun b : UInt8 => (b.toNat : Int)) (fun x y e => UInt8.toNat_inj.1 (Int.ofNat.inj e)) (tb FL).data.toList (s.size + 1) [] s.data.toList
  have h5 : (tb FL).data.toList.map (fun b : UInt8 => (b.toNat : Int)) = FL := rfl
  rw [h5, ← h1, List.map_map] at h4
  have h6 : pcs FL (s.size + 1) [] (bl s) = (Lib.splitB (tb FL) 0 (Lib.countB s (tb FL)) s).map bl := h4
  rw [h6, List.map_map]
  conv => lhs; rw [← List.map_id (Lib.splitB (tb FL) 0 (Lib.countB s (tb FL)) s)]
  refine List.map_congr_left fun x _ => ?_
  simp only [Function.comp, id, tb_bl]
/-- What is told of the pieces. -/
def Gf (ps : List (List Int)) : List ByteArray := (ps.dropLast.filter (fun p => !p.isEmpty)).map (fun p => (uout (tb p)).1)
theorem Gf_one (p : List Int) : Gf [p] = [] := rfl
theorem Gf_cons (p : List Int) (ps : List (List Int)) (h : ps ≠ []) : Gf (p :: ps) = if p = [] then Gf ps else (uout (tb p)).1 :: Gf ps := by
  unfold Gf
  rw [List.dropLast_cons_of_ne_nil h]
  by_cases hp : p = []
  · rw [if_pos hp, hp]; rfl
  · rw [if_neg hp, List.filter_cons_of_pos (by cases p with | nil => exact absurd rfl hp | cons _ _ => rfl)]
    rfl
def fnd (s : ByteArray) : List ByteArray := if s.size ≤ 300 ∧ okBits s = true then Gf ((pcs FL (s.size + 1) [] (bl s)).tail) else []
theorem rdOf_tb (L : List (List Int)) (j : Nat) (h : j < L.length) : rdOf ByteArray.empty (L.map tb) (j : Int) = tb L[j] := by
  unfold rdOf
  rw [Int.toNat_natCast, List.getD_eq_getElem?_getD, List.getElem?_map, List.getElem?_eq_getElem h]
  rfl
theorem implF_l0 (L : List (List Int)) (hL : L.length ≤ 100000) : ∀ (d j k : Nat) (acc : List ByteArray), L.length - j = d → j ≤ L.length + 5 → acc.length ≤ j → d + 3001 < k →
    impl_FindFrames.l0 k (L.map tb) acc (j : Int) = some (acc ++ Gf (L.drop j)) := by
  intro d
  induction d with
  | zero =>
    intro j k acc hd hj ha hk
    obtain ⟨k, rfl⟩ : ∃ m, k = m + 1 := ⟨k - 1, by omega⟩
    simp only [impl_FindFrames.l0]
    rw [w64s (by omega), List.length_map, if_neg (by omega), List.drop_eq_nil_of_le (by omega)]
    simp [Gf]
  | succ d ih =>
    intro j k acc hd hj ha hk
    obtain ⟨k, rfl⟩ : ∃ m, k = m + 1 := ⟨k - 1, by omega⟩
    simp only [impl_FindFrames.l0]
    rw [w64s (by omega), List.length_map, List.drop_eq_getElem_cons (show j < L.length by omega)]
    by_cases hl : ((j + 1 : Nat) : Int) < (L.length : Int)
    · rw [if_pos hl, if_pos (show (0 : Int) ≤ (j : Int) by omega), if_pos (show (j : Int) < (L.length : Int) by omega), rdOf_tb L j (by omega), Gf_cons _ _ (by rw [Ne, List.drop_eq_nil_iff]; omega)]
      by_cases hp : L[j] = []
      · rw [if_pos hp, if_pos (by rw [hp]; exact (toList_nil_iff _).2 rfl)]
        exact ih (j + 1) k acc (by omega) (by omega) (by omega) (by omega)
      · have h0 : ¬ (tb L[j]).toList = ([] : List UInt8) := fun e => hp (List.eq_nil_of_length_eq_zero (by have := (toList_nil_iff _).1 e; rwa [tb_len] at this))
        rw [if_neg hp, if_neg h0, implU_all _ _ (by omega), bsome, if_pos (show acc.length < 8796093022208 by omega), ih (j + 1) k _ (by omega) (by omega) (by simp; omega) (by omega), List.append_assoc]
        rfl
    · rw [if_neg hl, List.drop_eq_nil_of_le (show L.length ≤ j + 1 by omega), Gf_one]
      simp
theorem pcs_len {α : Type} [BEq α] (F : List α) : ∀ (n : Nat) (cur l : List α), (pcs F n cur l).length ≤ n + 1
  | 0, cur, l => by simp [pcs]
  | n + 1, cur, [] => by simp [pcs]
  | n + 1, cur, c :: r => by
    unfold pcs
    split
    · have := pcs_len F n [] ((c :: r).drop F.length)
      simp only [List.length_cons]; omega
    · have := pcs_len F n (cur ++ [c]) r
      omega
theorem implF_some (s : ByteArray) (hs : s.size ≤ 10000000) (k : Nat) (hk : 4000 ≤ k) : impl_FindFrames.f k s = some (fnd s) := by
  obtain ⟨k, rfl⟩ : ∃ m, k = m + 1 := ⟨k - 1, by omega⟩
  unfold impl_FindFrames.f fnd
  by_cases h : (s.size : Int) > 300
  · rw [if_pos h, if_neg (fun x => by have := x.1; omega)]
    simp only [impl_FindFrames.j0, if_true]
  · rw [if_neg h, bitsAlone_some s (by omega), bsome]
    cases hb : okBits s with
    | false =>
      rw [if_neg (by simp)]
      simp only [impl_FindFrames.j0, Bool.not_false, if_true]
    | true =>
      rw [if_pos (show s.size ≤ 300 ∧ true = true from ⟨by omega, rfl⟩)]
      simp only [impl_FindFrames.j0, Bool.not_true, Bool.false_eq_true, if_false]
      have hlen := pcs_len FL (s.size + 1) [] (bl s)
      have := implF_l0 (pcs FL (s.size + 1) [] (bl s)) (by omega) ((pcs FL (s.size + 1) [] (bl s)).length - 1) 1 k [] rfl (by omega) (by simp) (by omega)
      rw [flag_tb, split_some s (by omega), bsome, show (1 : Int) = ((1 : Nat) : Int) by rfl, this, List.nil_append, List.drop_one]
/-- The other program's loop. -/
def stF (from_ : Int) (P : List (List Int)) : List (List Int) := if from_ < 0 then P.tail else P
theorem isFlag (s : ByteArray) (j : Nat) (hj : j + 8 ≤ s.size) : ((s.extract j (j + 8)).toList = (tb FL).toList) ↔ FL.isPrefixOf ((bl s).drop j) = true := by
  rw [toList_eq_iff, List.isPrefixOf_iff_prefix, List.prefix_iff_eq_take]
  have h8 : FL.length = 8 := rfl
  have hb : bl (tb FL) = FL := bl_tb_bits FL_bits
  constructor
  · intro h
    have := congrArg bl h
    rw [bl_extract, hb, show j + 8 - j = 8 by omega] at this
    rw [h8, this]
  · intro h
    apply bl_inj
    rw [bl_extract, hb, show j + 8 - j = 8 by omega, ← h8, ← h]
theorem specF_l1 (s : ByteArray) (hs : s.size ≤ 300) : ∀ (N d j k : Nat) (acc : List ByteArray) (fr : Int) (cur : List Int), s.size - j ≤ d → d ≤ N → j ≤ s.size → acc.length ≤ j →
    (fr = -1 ∨ ∃ f : Nat, fr = f ∧ f ≤ j ∧ cur = ((bl s).drop f).take (j - f)) → d + 3001 < k →
      spec_FindFrames.l1 k s acc fr (j : Int) = some (acc ++ Gf (stF fr (pcs FL (s.size + 1) cur ((bl s).drop j)))) := by
  intro N
  induction N with
  | zero =>
    intro d j k acc fr cur hd hN hj ha hf hk
    obtain ⟨k, rfl⟩ : ∃ m, k = m + 1 := ⟨k - 1, by omega⟩
    simp only [spec_FindFrames.l1]
    have h8 : FL.length = 8 := rfl
    have e8 : wrap64 ((j : Int) + 8) = ((j + 8 : Nat) : Int) := by rw [w64 (by omega) (by omega)]; omega
    rw [e8, if_neg (by omega), pcs_short FL _ _ _ (by rw [List.length_drop, bl_len, h8]; omega) (by rw [List.length_drop, bl_len]; omega)]
    unfold stF
    split
    · simp [Gf]
    · rw [Gf_one]; simp
  | succ N ih =>
    intro d j k acc fr cur hd hN hj ha hf hk
    obtain ⟨k, rfl⟩ : ∃ m, k = m + 1 := ⟨k - 1, by omega⟩
    simp only [spec_FindFrames.l1]
    have h8 : FL.length = 8 := rfl
    have e8 : wrap64 ((j : Int) + 8) = ((j + 8 : Nat) : Int) := by rw [w64 (by omega) (by omega)]; omega
    rw [e8]
    by_cases hl : ((j + 8 : Nat) : Int) ≤ (s.size : Int)
    · have hjl : j < (bl s).length := by rw [bl_len]; omega
      have hpc : ∀ cur, pcs FL (s.size + 1) cur ((bl s).drop j) = if FL.isPrefixOf ((bl s).drop j) = true then cur :: pcs FL (s.size + 1) [] ((bl s).drop (j + 8)) else pcs FL (s.size + 1) (cur ++ [(bl s)[j]]) ((bl s).drop (j + 1)) := by
        intro cur
        conv => lhs; rw [List.drop_eq_getElem_cons hjl, pcs]
        rw [← List.drop_eq_getElem_cons hjl, h8, List.drop_drop]
        by_cases hp : FL.isPrefixOf ((bl s).drop j) = true
        · rw [if_pos hp, if_pos hp, pcs_fuel FL FL_ne s.size (s.size + 1) [] _ (by rw [List.length_drop, bl_len]; omega) (by rw [List.length_drop, bl_len]; omega)]
        · rw [if_neg hp, if_neg hp, pcs_fuel FL FL_ne s.size (s.size + 1) _ _ (by rw [List.length_drop, bl_len]; omega) (by rw [List.length_drop, bl_len]; omega)]
      rw [if_pos hl, if_pos (show (0 : Int) ≤ (j : Int) by omega), if_pos (show (j : Int) ≤ ((j + 8 : Nat) : Int) by omega)]
      unfold spec_flag.f
      rw [bsome, Int.toNat_natCast, Int.toNat_natCast, flag_tb, hpc cur]
      by_cases hp : FL.isPrefixOf ((bl s).drop j) = true
      · rw [if_pos hp, if_pos ((isFlag s j (by omega)).2 hp)]
        rcases hf with rfl | ⟨f, rfl, hfj, hcur⟩
        · rw [if_neg (by decide)]
          have := ih (d - 1) (j + 8) k acc (((j + 8 : Nat) : Int)) [] (by omega) (by omega) (by omega) (by omega) (Or.inr ⟨j + 8, rfl, by omega, by simp⟩) (by omega)
          rw [this]
          unfold stF
          rw [if_neg (by omega), if_pos (by decide), List.tail_cons]
        · have hnx : ∀ acc : List ByteArray, acc.length ≤ j + 1 → spec_FindFrames.l1 k s acc (((j + 8 : Nat) : Int)) (((j + 8 : Nat) : Int)) = some (acc ++ Gf (pcs FL (s.size + 1) [] ((bl s).drop (j + 8)))) := by
            intro acc ha2
            have := ih (d - 1) (j + 8) k acc (((j + 8 : Nat) : Int)) [] (by omega) (by omega) (by omega) (by omega) (Or.inr ⟨j + 8, rfl, by omega, by simp⟩) (by omega)
            rw [this]
            unfold stF
            rw [if_neg (by omega)]
          have hst : stF (f : Int) (cur :: pcs FL (s.size + 1) [] ((bl s).drop (j + 8))) = cur :: pcs FL (s.size + 1) [] ((bl s).drop (j + 8)) := by unfold stF; rw [if_neg (by omega)]
          have hcl : cur.length = j - f := by rw [hcur, List.length_take, List.length_drop, bl_len]; omega
          rw [hst, Gf_cons _ _ (pcs_ne FL _ _ _), if_pos (show (f : Int) ≥ 0 by omega)]
          by_cases hgt : (j : Int) > (f : Int)
          · rw [if_pos hgt, if_pos (show (0 : Int) ≤ (f : Int) by omega), if_pos (show (f : Int) ≤ (j : Int) by omega), if_pos (show (j : Int) ≤ (s.size : Int) by omega), Int.toNat_natCast, specU_some _ _ (by omega), bsome,
              if_pos (show acc.length < 8796093022208 by omega), hnx _ (by simp; omega), if_neg (show ¬ cur = [] from fun e => by rw [e] at hcl; simp at hcl; omega)]
            have hx : s.extract f j = tb cur := by
              apply bl_inj
              rw [bl_extract, bl_tb, hcur]
              intro x hx
              rw [hcur] at hx
              exact bl_byte s x (List.mem_of_mem_drop (List.mem_of_mem_take hx))
            rw [hx, List.append_assoc]
            rfl
          · rw [if_neg hgt, if_pos (show cur = [] from List.eq_nil_of_length_eq_zero (by omega)), hnx _ (by omega)]
      · rw [if_neg hp, if_neg (fun e => hp ((isFlag s j (by omega)).1 e)), w64s (by omega)]
        refine ih (d - 1) (j + 1) k acc fr _ (by clear hf; omega) (by clear hf; omega) (by clear hf; omega) (by clear hf; omega) ?_ (by clear hf; omega)
        rcases hf with rfl | ⟨f, rfl, hfj, hcur⟩
        · exact Or.inl rfl
        · refine Or.inr ⟨f, rfl, by omega, ?_⟩
          rw [hcur, show j + 1 - f = (j - f) + 1 by omega, List.take_add_one, List.getElem?_drop, show f + (j - f) = j by omega, List.getElem?_eq_getElem hjl]
          rfl
    · rw [if_neg hl, pcs_short FL _ _ _ (by rw [List.length_drop, bl_len, h8]; omega) (by rw [List.length_drop, bl_len]; omega)]
      unfold stF
      split
      · simp [Gf]
      · rw [Gf_one]; simp
theorem specF_l0 (s : ByteArray) (hs : s.size ≤ 300) : ∀ (d j k : Nat), s.size - j = d → j ≤ s.size → d + 4000 < k →
    spec_FindFrames.l0 k s (j : Int) = if ((bl s).drop j).all isBit = true then some (Gf ((pcs FL (s.size + 1) [] (bl s)).tail)) else some [] := by
  intro d
  induction d with
  | zero =>
    intro j k hd hj hk
    obtain ⟨k, rfl⟩ : ∃ m, k = m + 1 := ⟨k - 1, by omega⟩
    simp only [spec_FindFrames.l0]
    rw [if_neg (by omega), List.drop_eq_nil_of_le (by rw [bl_len]; omega), if_pos (show ([] : List Int).all isBit = true from rfl)]
    have := specF_l1 s hs s.size s.size 0 k [] (-1) [] (by omega) (by omega) (by omega) (by simp) (Or.inl rfl) (by omega)
    rw [show ((0 : Nat) : Int) = 0 by rfl, List.drop_zero, List.nil_append] at this
    rw [this]
    unfold stF
    rw [if_pos (by decide)]
  | succ d ih =>
    intro j k hd hj hk
    obtain ⟨k, rfl⟩ : ∃ m, k = m + 1 := ⟨k - 1, by omega⟩
    simp only [spec_FindFrames.l0]
    rw [if_pos (by omega), if_pos (by omega), w64s (by omega), ih (j + 1) k (by omega) (by omega) (by omega), bl_drop s j (by omega), List.all_cons]
    generalize bt s (j : Int) = c
    by_cases h1 : c = 48
    · rw [if_pos h1]; simp [isBit, h1]
    · rw [if_neg h1]
      by_cases h2 : c = 49
      · rw [if_pos h2]; simp [isBit, h2]
      · rw [if_neg h2]; simp [isBit, h1, h2]
theorem specF_some (s : ByteArray) (k : Nat) (hk : 5000 ≤ k) : spec_FindFrames.f k s = some (fnd s) := by
  unfold spec_FindFrames.f fnd
  by_cases h : (s.size : Int) > 300
  · rw [if_pos h, if_neg (fun x => by have := x.1; omega)]
  · rw [if_neg h]
    have := specF_l0 s (by omega) s.size 0 k (by omega) (by omega) (by omega)
    rw [show ((0 : Nat) : Int) = 0 by rfl, List.drop_zero] at this
    rw [this]
    by_cases hb : okBits s = true
    · rw [if_pos (show (bl s).all isBit = true from hb), if_pos ⟨by omega, hb⟩]
    · rw [if_neg (show ¬ (bl s).all isBit = true from hb), if_neg (fun x => hb x.2)]

end Go.Proofs.YtbgchgjefohpoaaDoor.Pure
