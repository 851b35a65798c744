/- Rests: both programs. -/
import Derived.Test.YtmkcmkkpeimldaaDoorPx4
import Derived.Test.YtmkcmkkpeimldaaDoorPx5
import Derived.Test.YtmkcmkkpeimldaaDoorPx6
import Derived.Test.YtmkcmkkpeimldaaDoorPx7
import Derived.Test.YtmkcmkkpeimldaaDoorQP
namespace Go.Proofs.YtmkcmkkpeimldaaDoor.Pure
open Go.RowKit Go.Proofs.YtmkcmkkpeimldaaDoor.P Go.Proofs.YtmkcmkkpeimldaaDoorW.PrintWords Go.Proofs.YtmkcmkkpeimldaaDoorW.PrintLast
set_option linter.unusedVariables false
set_option linter.unusedSimpArgs false

/-! Rests: both programs. -/
def restB (p s : ByteArray) : ByteArray := ob (Crc.rst (pt p) (bo s))
theorem xor_bit (c z : Int) (hc : c = 48 ∨ c = 49) (hz : z = 48 ∨ z = 49) : Go.bits .xor .u8 c ((z - 48) % 256) = ib (q49 c != q49 z) := by
  rcases hc with rfl | rfl <;> rcases hz with rfl | rfl <;> rfl
theorem xorL_nil (m : List Bool) : Crc.xorL [] m = m := by cases m <;> rfl
theorem xorL_get : ∀ (a b : List Bool) (j : Nat), a.length ≤ b.length → (Crc.xorL a b)[j]? = if j < a.length then some (a.getD j false != b.getD j false) else b[j]?
  | [], b, j, _ => by rw [xorL_nil]; simp
  | x :: a, [], j, h => by simp at h
  | x :: a, y :: b, 0, _ => by simp [Crc.xorL]
  | x :: a, y :: b, j + 1, h => by
    simp only [Crc.xorL, List.getElem?_cons_succ, List.length_cons, Nat.add_lt_add_iff_right, List.getD_cons_succ]
    exact xorL_get a b j (by simpa using h)
theorem all_getD {l : List Int} (h : l.all isBit = true) (j : Nat) (hj : j < l.length) : l.getD j 0 = 48 ∨ l.getD j 0 = 49 := by
  rw [List.getD_eq_getElem?_getD, List.getElem?_eq_getElem hj]
  exact (isBit_iff _).1 (List.all_eq_true.1 h _ (List.getElem_mem hj))
theorem set_bits {l : List Int} (h : l.all isBit = true) (j : Nat) (b : Bool) : (l.set j (ib b)).all isBit = true := by
  rw [List.all_eq_true] at h ⊢
  intro x hx
  rcases List.mem_or_eq_of_mem_set hx with hx | rfl
  · exact h x hx
  · cases b <;> rfl
theorem bits_bt (p : ByteArray) (hp : okBits p = true) (k : Nat) (hk : k < p.size) : bt p (k : Int) = 48 ∨ bt p (k : Int) = 49 := by
  rw [← isBit_iff, bt_nat p k hk]
  exact List.all_eq_true.1 hp _ (List.getElem_mem _)
theorem xorAt_eq (l : List Int) (p : ByteArray) (hp : okBits p = true) (hl : l.all isBit = true) (i k : Nat) (hk : k < p.size) (hi : i + k < l.length) :
    xorAt l p i k = l.set (i + k) (ib (q49 (l.getD (i + k) 0) != q49 (bt p (k : Int)))) := by
  unfold xorAt
  rw [xor_bit _ _ (all_getD hl _ hi) (bits_bt p hp k hk)]
theorem rin_get (p : ByteArray) (hp : okBits p = true) (i : Nat) : ∀ (d k : Nat) (l : List Int), k + d = p.size → i + p.size ≤ l.length → l.all isBit = true →
    (rin p i d k l).all isBit = true ∧ (rin p i d k l).length = l.length ∧
      ∀ j, (rin p i d k l)[j]? = if i + k ≤ j ∧ j < i + p.size then some (ib (q49 (l.getD j 0) != q49 (bt p ((j - i : Nat) : Int)))) else l[j]? := by
  intro d
  induction d with
  | zero =>
    intro k l hk hi hl
    refine ⟨hl, rfl, fun j => ?_⟩
    rw [if_neg (by omega)]
    rfl
  | succ d ih =>
    intro k l hk hi hl
    have e := xorAt_eq l p hp hl i k (by omega) (by omega)
    obtain ⟨h1, h2, h3⟩ := ih (k + 1) (xorAt l p i k) (by omega) (by rw [xorAt_len]; exact hi) (by rw [e]; exact set_bits hl _ _)
    rw [rin]
    refine ⟨h1, by rw [h2, xorAt_len], fun j => ?_⟩
    rw [h3 j, e]
    by_cases hj : j = i + k
    · subst hj
      rw [if_neg (by omega), if_pos (by omega), List.getElem?_set_self (by omega), show i + k - i = k by omega]
    · generalize ib (q49 (l.getD (i + k) 0) != q49 (bt p (k : Int))) = x
      have hg : (l.set (i + k) x)[j]? = l[j]? := List.getElem?_set_ne (by omega)
      have hd : (l.set (i + k) x).getD j 0 = l.getD j 0 := by rw [List.getD_eq_getElem?_getD, hg, ← List.getD_eq_getElem?_getD]
      rw [hg, hd]
      by_cases h : i + k ≤ j ∧ j < i + p.size
      · rw [if_pos h, if_pos (by omega)]
      · rw [if_neg h, if_neg (by omega)]
theorem rin_xor (p : ByteArray) (hp : okBits p = true) (i : Nat) (l : List Int) (hi : i + p.size ≤ l.length) (hl : l.all isBit = true) :
    ((rin p i p.size 0 l).drop i).map q49 = Crc.xorL (bo p) ((l.drop i).map q49) := by
  obtain ⟨_, h2, h3⟩ := rin_get p hp i p.size 0 l (by omega) hi hl
  apply List.ext_getElem?
  intro j
  rw [xorL_get _ _ _ (by rw [bo_len, List.length_map, List.length_drop]; omega), List.getElem?_map, List.getElem?_drop, h3, bo_len]
  by_cases hj : j < p.size
  · rw [if_pos (by omega), if_pos hj, show i + j - i = j by omega]
    have e1 : (bo p).getD j false = q49 (bt p (j : Int)) := by
      rw [List.getD_eq_getElem?_getD, List.getElem?_eq_getElem (by rw [bo_len]; exact hj), bt_nat p j hj]
      simp [bo]
    have e2 : ((l.drop i).map q49).getD j false = q49 (l.getD (i + j) 0) := by
      rw [List.getD_eq_getElem?_getD, List.getElem?_map, List.getElem?_drop, List.getD_eq_getElem?_getD, List.getElem?_eq_getElem (by omega)]
      rfl
    rw [e1, e2]
    simp only [Option.map_some]
    congr 1
    cases q49 (l.getD (i + j) 0) <;> cases q49 (bt p (j : Int)) <;> rfl
  · rw [if_neg (by omega), if_neg hj, List.getElem?_map, List.getElem?_drop]
theorem tail_map_drop (l : List Int) (i : Nat) : (l.drop (i + 1)).map q49 = ((l.drop i).map q49).tail := by
  rw [← List.tail_drop, List.map_tail]
theorem rout_spec (p : ByteArray) (hp : okPoly p = true) : ∀ (d i : Nat) (l : List Int), i + d + p.size = l.length + 1 → l.all isBit = true →
    (rout p d i l).all isBit = true ∧ ((rout p d i l).drop (i + d)).map q49 = rem (pt p) d ((l.drop i).map q49) := by
  have hs := okPoly_size hp
  intro d
  induction d with
  | zero => intro i l hi hl; exact ⟨hl, rfl⟩
  | succ d ih =>
    intro i l hi hl
    have hil : i < l.length := by omega
    rw [rout]
    have e : (l.drop i).map q49 = q49 (l.getD i 0) :: ((l.drop (i + 1)).map q49) := by
      rw [List.drop_eq_getElem_cons hil, List.map_cons, List.getD_eq_getElem?_getD, List.getElem?_eq_getElem hil]; rfl
    rcases all_getD hl i hil with h0 | h0
    · rw [if_pos h0]
      obtain ⟨g1, g2⟩ := ih (i + 1) l (by omega) hl
      refine ⟨g1, ?_⟩
      rw [show i + (d + 1) = i + 1 + d by omega, g2, e, rem, h0]
      rfl
    · rw [if_neg (by omega)]
      obtain ⟨r1, r2, _⟩ := rin_get p (okPoly_bits hp) i p.size 0 l (by omega) (by omega) hl
      obtain ⟨g1, g2⟩ := ih (i + 1) (rin p i p.size 0 l) (by omega) r1
      refine ⟨g1, ?_⟩
      rw [show i + (d + 1) = i + 1 + d by omega, g2, tail_map_drop, rin_xor p (okPoly_bits hp) i l (by omega) hl, pt_cons hp, e, rem, h0]
      rfl
theorem bits_ob (l : List Int) (h : l.all isBit = true) : tb l = ob (l.map q49) := by
  unfold ob
  rw [List.map_map]
  congr 1
  conv => lhs; rw [← List.map_id l]
  refine List.map_congr_left fun x hx => ?_
  rcases (isBit_iff x).1 (List.all_eq_true.1 h x hx) with rfl | rfl <;> rfl
theorem implRest_some (p s : ByteArray) (hp : okPoly p = true) (hb : okBits s = true) (h1 : p.size ≤ s.size + 1) (hs : s.size ≤ 1000000000) : impl_rest.f p s = some (restB p s) := by
  have hz := okPoly_size hp
  unfold impl_rest.f
  rw [if_pos ⟨hz.1, h1, hs⟩]
  congr 1
  show tb ((rout p (s.size + 1 - p.size) 0 (bl s)).drop (s.size + 1 - p.size)) = restB p s
  obtain ⟨g1, g2⟩ := rout_spec p hp (s.size + 1 - p.size) 0 (bl s) (by rw [bl_len]; omega) hb
  have g3 : ((rout p (s.size + 1 - p.size) 0 (bl s)).drop (s.size + 1 - p.size)).all isBit = true := by
    rw [List.all_eq_true] at g1 ⊢
    exact fun x hx => g1 x (List.mem_of_mem_drop hx)
  rw [bits_ob _ g3]
  rw [Nat.zero_add, List.drop_zero] at g2
  rw [g2]
  unfold restB
  have := rem_rst (pt p) (bo s) (by rw [pt_len]; omega) (by rw [pt_len, bo_len]; omega)
  rw [bo_len, pt_len, show s.size - (p.size - 1) = s.size + 1 - p.size by omega] at this
  rw [← this]
  rfl
theorem differ_l0 (a b : ByteArray) (ha : okBits a = true) (hb : okBits b = true) (hs : a.size = b.size) (hm : a.size ≤ 1000000) : ∀ (d j k : Nat) (acc : ByteArray), a.size - j = d → j ≤ a.size → acc.size ≤ j → d < k →
    spec_differ.l0 k a b acc (j : Int) = some (acc ++ ob (Crc.xorL ((bo a).drop j) ((bo b).drop j))) := by
  intro d
  induction d with
  | zero =>
    intro j k acc hd hj hc hk
    obtain ⟨k, rfl⟩ : ∃ m, k = m + 1 := ⟨k - 1, by omega⟩
    simp only [spec_differ.l0]
    rw [if_neg (by omega), List.drop_eq_nil_of_le (by rw [bo_len]; omega), List.drop_eq_nil_of_le (by rw [bo_len]; omega)]
    show some acc = some (acc ++ tb [])
    rw [app_nil]
  | succ d ih =>
    intro j k acc hd hj hc hk
    obtain ⟨k, rfl⟩ : ∃ m, k = m + 1 := ⟨k - 1, by omega⟩
    simp only [spec_differ.l0]
    have hja : j < (bo a).length := by rw [bo_len]; omega
    have hjb : j < (bo b).length := by rw [bo_len]; omega
    rw [if_pos (show (j : Int) < (a.size : Int) by omega), if_pos (show (0 : Int) ≤ (j : Int) by omega), if_pos (show (j : Int) < (b.size : Int) by omega), w64s (by omega),
      bit_at a ha j (by omega), bit_at b hb j (by omega), List.drop_eq_getElem_cons hja, List.drop_eq_getElem_cons hjb, Crc.xorL]
    generalize (bo a)[j] = x
    generalize (bo b)[j] = y
    have e0 : (⟨#[48]⟩ : ByteArray) = ob [false] := rfl
    have e1 : (⟨#[49]⟩ : ByteArray) = ob [true] := rfl
    have key : ∀ z : Bool, spec_differ.l0 k a b (acc ++ ob [z]) ((j + 1 : Nat) : Int) = some (acc ++ ob (z :: Crc.xorL ((bo a).drop (j + 1)) ((bo b).drop (j + 1)))) := by
      intro z
      rw [ih (j + 1) k (acc ++ ob [z]) (by omega) (by omega) (by rw [ByteArray.size_append, ob_len]; simp; omega) (by omega), app_assoc, ← ob_append]
      rfl
    rw [if_pos (show acc.size + 1 ≤ 9223372036854775807 by omega), e0, e1]
    cases x <;> cases y
    · rw [if_pos rfl]; exact key false
    · rw [if_neg (by decide), if_pos (show acc.size + 1 ≤ 9223372036854775807 by omega)]; exact key true
    · rw [if_neg (by decide), if_pos (show acc.size + 1 ≤ 9223372036854775807 by omega)]; exact key true
    · rw [if_pos rfl]; exact key false
theorem differ_some (a b : ByteArray) (ha : okBits a = true) (hb : okBits b = true) (hs : a.size = b.size) (hm : a.size ≤ 1000000) (k : Nat) (hk : a.size < k) :
    spec_differ.f k a b = some (ob (Crc.xorL (bo a) (bo b))) := by
  unfold spec_differ.f
  have := differ_l0 a b ha hb hs hm a.size 0 k (⟨#[]⟩ : ByteArray) (by omega) (by omega) (by simp [ByteArray.size]) hk
  rw [show ((0 : Nat) : Int) = 0 by rfl, List.drop_zero, List.drop_zero] at this
  rw [this]
  exact congrArg some (nil_app _)
theorem remain_l0 (p : ByteArray) (hp : okPoly p = true) : ∀ (d i k : Nat) (x : ByteArray), i + d + p.size = x.size + 1 → okBits x = true → x.size ≤ 10000000 → d + 20 < k →
    spec_remainder.l0 k p x ((p.size : Int) - 1) (i : Int) = some (ob (rem (pt p) d ((bo x).drop i))) := by
  have hs := okPoly_size hp
  intro d
  induction d with
  | zero =>
    intro i k x hi hb hx hk
    obtain ⟨k, rfl⟩ : ∃ m, k = m + 1 := ⟨k - 1, by omega⟩
    simp only [spec_remainder.l0]
    have e : mx (wrap64 ((x.size : Int) - ((p.size : Int) - 1))) 0 = (i : Int) := by
      rw [w64 (by omega) (by omega)]
      unfold mx
      split <;> omega
    rw [if_neg (show ¬ wrap64 ((i : Int) + ((p.size : Int) - 1)) < (x.size : Int) by rw [w64 (by omega) (by omega)]; omega), e, if_pos (show (0 : Int) ≤ (i : Int) by omega), if_pos (show (i : Int) ≤ (x.size : Int) by omega), Int.toNat_natCast]
    congr 1
    refine bo_inj (okBits_extract x hb _ _) (okBits_ob _) ?_
    rw [bo_ob, bo_extract, rem, List.take_of_length_le (by rw [List.length_drop, bo_len]; omega)]
  | succ d ih =>
    intro i k x hi hb hx hk
    obtain ⟨k, rfl⟩ : ∃ m, k = m + 1 := ⟨k - 1, by omega⟩
    simp only [spec_remainder.l0]
    have hix : i < (bo x).length := by rw [bo_len]; omega
    have e1 : wrap64 ((i : Int) + ((p.size : Int) - 1)) = ((i + (p.size - 1) : Nat) : Int) := by rw [w64 (by omega) (by omega)]; omega
    have e2 : wrap64 (((i + (p.size - 1) : Nat) : Int) + 1) = ((i + p.size : Nat) : Int) := by rw [w64 (by omega) (by omega)]; omega
    rw [e1, e2, if_pos (show ((i + (p.size - 1) : Nat) : Int) < (x.size : Int) by omega), if_pos (show (0 : Int) ≤ (i : Int) by omega), if_pos (show (i : Int) < (x.size : Int) by omega), w64s (by omega),
      bit_at x hb i (by omega), List.drop_eq_getElem_cons hix, rem]
    cases hh : (bo x)[i] with
    | false =>
      rw [if_neg (by decide), ih (i + 1) k x (by omega) hb hx (by omega)]
      rfl
    | true =>
      rw [if_pos (show ib true = 49 from rfl), if_pos (show (i : Int) ≤ (x.size : Int) by omega), if_pos (show (i : Int) ≤ ((i + p.size : Nat) : Int) by omega), if_pos (show ((i + p.size : Nat) : Int) ≤ (x.size : Int) by omega), Int.toNat_natCast, Int.toNat_natCast]
      have hb1 := okBits_extract x hb i (i + p.size)
      have hsz : (x.extract i (i + p.size)).size = p.size := by rw [ByteArray.size_extract]; omega
      rw [differ_some _ p hb1 (okPoly_bits hp) hsz (by omega) k (by omega), bsome]
      have hx0 : (x.extract 0 i).size = i := by rw [ByteArray.size_extract]; omega
      have hx1 : (x.extract (i + p.size) x.size).size = x.size - (i + p.size) := by rw [ByteArray.size_extract]; omega
      have hxl : (Crc.xorL (bo (x.extract i (i + p.size))) (bo p)).length = p.size := by rw [Crc.xorL_length _ _ (by rw [bo_len, bo_len, hsz]), bo_len, hsz]
      rw [if_pos (show (x.extract 0 i).size + (ob (Crc.xorL (bo (x.extract i (i + p.size))) (bo p))).size ≤ 9223372036854775807 by rw [hx0, ob_len, hxl]; omega),
        if_pos (show (0 : Int) ≤ ((i + p.size : Nat) : Int) by omega),
        if_pos (show ((x.extract 0 i) ++ (ob (Crc.xorL (bo (x.extract i (i + p.size))) (bo p)))).size + (x.extract (i + p.size) x.size).size ≤ 9223372036854775807 by rw [ByteArray.size_append, hx0, hx1, ob_len, hxl]; omega)]
      have hbn : okBits ((x.extract 0 i) ++ (ob (Crc.xorL (bo (x.extract i (i + p.size))) (bo p))) ++ (x.extract (i + p.size) x.size)) = true := by
        rw [okBits_append, okBits_append, okBits_extract x hb, okBits_extract x hb, okBits_ob]; rfl
      have hszn : ((x.extract 0 i) ++ (ob (Crc.xorL (bo (x.extract i (i + p.size))) (bo p))) ++ (x.extract (i + p.size) x.size)).size = x.size := by
        rw [ByteArray.size_append, ByteArray.size_append, hx0, hx1, ob_len, hxl]; omega
      rw [ih (i + 1) k _ (by rw [hszn]; omega) hbn (by rw [hszn]; exact hx) (by omega)]
      have eb : bo ((x.extract 0 i) ++ (ob (Crc.xorL (bo (x.extract i (i + p.size))) (bo p))) ++ (x.extract (i + p.size) x.size)) = (bo x).take i ++ (Crc.xorL (bo p) (((bo x).drop i).take p.size) ++ (bo x).drop (i + p.size)) := by
        rw [bo_append, bo_append, bo_ob, bo_extract, bo_extract, bo_extract, List.drop_zero, Nat.sub_zero, List.append_assoc, Crc.xorL_comm, show i + p.size - i = p.size by omega,
          List.take_of_length_le (l := (bo x).drop (i + p.size)) (by rw [List.length_drop, bo_len]; omega)]
      have ed : ((bo x).take i ++ (Crc.xorL (bo p) (((bo x).drop i).take p.size) ++ (bo x).drop (i + p.size))).drop i = Crc.xorL (bo p) ((bo x).drop i) := by
        rw [List.drop_left' (by rw [List.length_take, bo_len]; omega)]
        have : (bo x).drop i = ((bo x).drop i).take p.size ++ (bo x).drop (i + p.size) := by
          rw [← List.drop_drop, List.take_append_drop]
        conv => rhs; rw [this]
        rw [xorL_long _ _ _ (by rw [bo_len, List.length_take, List.length_drop, bo_len]; omega)]
      have ef : ((bo x).take i ++ (Crc.xorL (bo p) (((bo x).drop i).take p.size) ++ (bo x).drop (i + p.size))).drop (i + 1) = Crc.xorL (pt p) ((bo x).drop (i + 1)) := by
        rw [← List.tail_drop, ed, pt_cons hp, List.drop_eq_getElem_cons hix]
        rfl
      rw [eb, ef, if_pos rfl]
theorem specRem_some (p s : ByteArray) (hp : okPoly p = true) (hb : okBits s = true) (h1 : p.size ≤ s.size + 1) (hs : s.size ≤ 10000000) (k : Nat) (hk : s.size + 30 < k) : spec_remainder.f k p s = some (restB p s) := by
  have hz := okPoly_size hp
  unfold spec_remainder.f
  rw [w64 (by omega) (by omega)]
  have := remain_l0 p hp (s.size + 1 - p.size) 0 k s (by omega) hb hs (by omega)
  rw [show ((0 : Nat) : Int) = 0 by rfl, List.drop_zero] at this
  rw [this]
  unfold restB
  have g := rem_rst (pt p) (bo s) (by rw [pt_len]; omega) (by rw [pt_len, bo_len]; omega)
  rw [bo_len, pt_len, show s.size - (p.size - 1) = s.size + 1 - p.size by omega] at g
  rw [g]
theorem restB_len (p s : ByteArray) : (restB p s).size = p.size - 1 := by unfold restB; rw [ob_len, Crc.rst_length, pt_len]
/-- What RestOf is. -/
def rB (p s : ByteArray) : ByteArray := if okPoly p = true ∧ okBits s = true ∧ s.size ≤ 40 ∧ p.size - 1 ≤ s.size then restB p s else tb []
theorem specR_some (p s : ByteArray) (hp : p.size ≤ 10000000) (hs : s.size ≤ 10000000) (k : Nat) (hk : p.size + s.size + 50 < k) : spec_RestOf.f k p s = some (rB p s) := by
  unfold spec_RestOf.f rB
  rw [specPoly_some p (by omega) k (by omega), bsome]
  cases h1 : okPoly p with
  | false => rw [if_neg (by simp), if_neg (by simp)]; rfl
  | true =>
    have hz := okPoly_size h1
    rw [if_pos rfl, validBits_some s (by omega) k (by omega), bsome, w64 (by omega) (by omega)]
    by_cases h2 : okBits s = true ∧ s.size ≤ 40
    · rw [if_pos (by simp [h2.1, h2.2])]
      by_cases h3 : (s.size : Int) < (p.size : Int) - 1
      · rw [if_pos h3, if_neg (fun h => by have := h.2.2.2; omega)]; rfl
      · rw [if_neg h3, specRem_some p s h1 h2.1 (by omega) (by omega) k (by omega), bsome, if_pos ⟨rfl, h2.1, h2.2, by omega⟩]
    · rw [if_neg (by simpa using h2), if_neg (fun h => h2 ⟨h.2.1, h.2.2.1⟩)]; rfl
theorem implR_some (p s : ByteArray) (hp : p.size ≤ 10000000) (hs : s.size ≤ 10000000) : impl_RestOf.f p s = some (rB p s) := by
  unfold impl_RestOf.f rB
  rw [implPoly_some p (by omega), bsome]
  cases h1 : okPoly p with
  | false => rw [if_neg (by simp), if_neg (by simp)]; rfl
  | true =>
    have hz := okPoly_size h1
    rw [if_pos rfl, valid_some s (by omega), bsome, w64 (by omega) (by omega)]
    by_cases h2 : okBits s = true ∧ s.size ≤ 40
    · rw [if_pos (by simp [h2.1, h2.2])]
      by_cases h3 : (s.size : Int) < (p.size : Int) - 1
      · rw [if_pos h3, if_neg (fun h => by have := h.2.2.2; omega)]; rfl
      · rw [if_neg h3, implRest_some p s h1 h2.1 (by omega) (by omega), bsome, if_pos ⟨rfl, h2.1, h2.2, by omega⟩]
    · rw [if_neg (by simpa using h2), if_neg (fun h => h2 ⟨h.2.1, h.2.2.1⟩)]; rfl

end Go.Proofs.YtmkcmkkpeimldaaDoor.Pure
