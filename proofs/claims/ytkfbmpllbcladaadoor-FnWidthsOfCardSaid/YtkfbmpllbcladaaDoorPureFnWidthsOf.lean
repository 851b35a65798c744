/- Windows stay in their limit: what WidthsOf answers is from 1 up to the limit, as the law asks. -/
import Derived.Test.YtkfbmpllbcladaaDoorPx1
import Derived.Test.YtkfbmpllbcladaaDoorPx10
import Derived.Test.YtkfbmpllbcladaaDoorPx2
import Derived.Test.YtkfbmpllbcladaaDoorPx3
import Derived.Test.YtkfbmpllbcladaaDoorPx4
import Derived.Test.YtkfbmpllbcladaaDoorPx5
import Derived.Test.YtkfbmpllbcladaaDoorPx6
import Derived.Test.YtkfbmpllbcladaaDoorPx7
import Derived.Test.YtkfbmpllbcladaaDoorPx8
import Derived.Test.YtkfbmpllbcladaaDoorPx9
namespace Go.Proofs.YtkfbmpllbcladaaDoor.Pure
open Go.RowKit Go.Proofs.YtkfbmpllbcladaaDoor.P Go.Proofs.YtkfbmpllbcladaaDoorW.PrintWords Go.Proofs.YtkfbmpllbcladaaDoorW.PrintLast
set_option linter.unusedVariables false
set_option linter.unusedSimpArgs false

/-! The reader of the drawn arguments: what is picked lies in its range, whatever the code. -/

theorem w64 {n : Int} (h0 : -9223372036854775808 ≤ n) (h1 : n ≤ 9223372036854775807) : wrap64 n = n := by unfold wrap64; omega

theorem xor_nonneg {a b : Int} (ha : 0 ≤ a) (ha' : a < 9223372036854775808) (hb : 0 ≤ b) (hb' : b < 9223372036854775808) : 0 ≤ Go.bits .xor .i64 a b := by
  obtain ⟨x, rfl⟩ := Int.eq_ofNat_of_zero_le ha
  obtain ⟨y, rfl⟩ := Int.eq_ofNat_of_zero_le hb
  have h1 : x ^^^ y < 2 ^ 63 := Nat.xor_lt_two_pow (by omega) (by omega)
  have hx : x % 2 ^ IntKind.i64.bits = x := Nat.mod_eq_of_lt (by simp [IntKind.bits]; omega)
  have hy : y % 2 ^ IntKind.i64.bits = y := Nat.mod_eq_of_lt (by simp [IntKind.bits]; omega)
  simp only [Go.bits, BitVec.ofInt_natCast, BitVec.toNat_xor, BitVec.toNat_ofNat, hx, hy]
  generalize x ^^^ y = z at *
  have e : (↑z : Int) % 2 ^ 64 = z := Int.emod_eq_of_lt (by omega) (by omega)
  simp only [IntKind.wrap, IntKind.bits, IntKind.signed, e]
  rw [if_neg (by simp; omega)]
  omega

/-- A reader's state: bytes, few, and a place. -/
structure RS (b : List Int) (p n : Int) : Prop where
  (len : b.length ≤ 2000) (byte : ∀ x ∈ b, 0 ≤ x ∧ x ≤ 255) (p0 : 0 ≤ p) (pn : p ≤ n)

theorem RS.le {b : List Int} {p n m : Int} (h : RS b p n) (hm : n ≤ m) : RS b p m := ⟨h.len, h.byte, h.p0, Int.le_trans h.pn hm⟩

theorem rd_mem {b : List Int} {i : Int} (h0 : 0 ≤ i) (h1 : i < b.length) : rd b i ∈ b := by
  unfold rd
  rw [List.getD_eq_getElem?_getD, List.getElem?_eq_getElem (by omega)]
  exact List.getElem_mem _

theorem rd_byte {b : List Int} (h : ∀ x ∈ b, 0 ≤ x ∧ x ≤ 255) (i : Int) : 0 ≤ rd b i ∧ rd b i ≤ 255 := by
  by_cases hi : i.toNat < b.length
  · unfold rd
    rw [List.getD_eq_getElem?_getD, List.getElem?_eq_getElem hi]
    exact h _ (List.getElem_mem _)
  · unfold rd
    rw [List.getD_eq_getElem?_getD, List.getElem?_eq_none (by omega)]
    simp

theorem newReader_some (l : List Int) (h : ∀ x ∈ l, (Lit.int .u8 x).wf = true) : ∃ b, spec_newReader.f l = some (b, 0) ∧ RS b 0 0 := by
  have hb : ∀ x ∈ l, 0 ≤ x ∧ x ≤ 255 := by
    intro x hx
    have := h x hx
    simp [Lit.wf, IntKind.min, IntKind.max, IntKind.signed, IntKind.bits] at this
    omega
  unfold spec_newReader.f
  split
  · rw [if_pos (by omega)]
    exact ⟨_, rfl, by simp; omega, fun x hx => hb x (List.mem_of_mem_take hx), by omega, by omega⟩
  · exact ⟨_, rfl, by omega, hb, by omega, by omega⟩

/-- A number picked: in its range. -/
theorem pick_some {b : List Int} {p n : Int} (h : RS b p n) (hn : n ≤ 1000000000) (m : Int) (hm : m ≤ 1000000000000) : ∃ r, (∀ k, 1 ≤ k → spec_reader_pick.f k b p m = some (r, p + 1)) ∧ 0 ≤ r ∧ (1 ≤ m → r < m) ∧ RS b (p + 1) (n + 1) := by
  have p0 := h.p0; have pn := h.pn; have hl := h.len
  have hR : RS b (p + 1) (n + 1) := ⟨hl, h.byte, by omega, by omega⟩
  have e1 : wrap64 (p + 1) = p + 1 := w64 (by omega) (by omega)
  have e2 : wrap64 (p + 1 - 1) = p := by rw [w64 (by omega) (by omega)]; omega
  by_cases hz : m < 1
  · refine ⟨0, fun k hk => ?_, by omega, by omega, hR⟩
    obtain ⟨k, rfl⟩ : ∃ j, k = j + 1 := ⟨k - 1, by omega⟩
    unfold spec_reader_pick.f
    rw [if_pos hz, e1]
    simp only [spec_reader_pick.j0, if_true]
  · by_cases hb : (b.length : Int) = 0
    · refine ⟨0, fun k hk => ?_, by omega, by omega, hR⟩
      obtain ⟨k, rfl⟩ : ∃ j, k = j + 1 := ⟨k - 1, by omega⟩
      unfold spec_reader_pick.f
      rw [if_neg hz, e1]
      have : ((b.length : Int) == 0) = true := by simpa using hb
      rw [this]
      simp only [spec_reader_pick.j0, if_true]
    · have hb' : ((b.length : Int) == 0) = false := by simpa using hb
      by_cases hlt : p < (b.length : Int)
      · obtain ⟨x0, x1⟩ := rd_byte h.byte p
        refine ⟨Int.tmod (rd b p) m, fun k hk => ?_, ?_, ?_, hR⟩
        · obtain ⟨k, rfl⟩ : ∃ j, k = j + 1 := ⟨k - 1, by omega⟩
          unfold spec_reader_pick.f
          rw [if_neg hz, e1, hb']
          simp only [spec_reader_pick.j0, Bool.false_eq_true, if_false, e2]
          rw [if_pos hlt, if_pos p0, if_neg (by omega), w64 (n := rd b p) (by omega) (by omega)]
        · exact Int.tmod_nonneg _ x0
        · intro _; exact Int.tmod_lt_of_pos _ (by omega)
      · have q0 : 0 ≤ Int.tmod p (b.length : Int) := Int.tmod_nonneg _ p0
        have q1 : Int.tmod p (b.length : Int) < b.length := Int.tmod_lt_of_pos _ (by omega)
        have e3 : wrap64 (p * 7) = p * 7 := w64 (by omega) (by omega)
        have e4 : wrap64 (p * 7 + 3) = p * 7 + 3 := w64 (by omega) (by omega)
        have s0 : 0 ≤ Int.tmod (p * 7 + 3) (b.length : Int) := Int.tmod_nonneg _ (by omega)
        have s1 : Int.tmod (p * 7 + 3) (b.length : Int) < b.length := Int.tmod_lt_of_pos _ (by omega)
        obtain ⟨x0, x1⟩ := rd_byte h.byte (Int.tmod p (b.length : Int))
        obtain ⟨y0, y1⟩ := rd_byte h.byte (Int.tmod (p * 7 + 3) (b.length : Int))
        have d0 : 0 ≤ Int.tdiv p (b.length : Int) := Int.tdiv_nonneg p0 (by omega)
        have d1 : Int.tdiv p (b.length : Int) ≤ p := by
          rw [Int.tdiv_eq_ediv_of_nonneg p0]
          exact Int.ediv_le_self _ p0
        generalize hxe : rd b (Int.tmod p (b.length : Int)) = x at *
        generalize hye : rd b (Int.tmod (p * 7 + 3) (b.length : Int)) = y at *
        generalize hde : Int.tdiv p (b.length : Int) = d at *
        have t0 : 0 ≤ Int.tdiv (x * 131 + y * 1117 + p * 29 + d * 53) 64 := Int.tdiv_nonneg (by omega) (by omega)
        have t1 : Int.tdiv (x * 131 + y * 1117 + p * 29 + d * 53) 64 ≤ x * 131 + y * 1117 + p * 29 + d * 53 := by
          rw [Int.tdiv_eq_ediv_of_nonneg (by omega)]
          exact Int.ediv_le_self _ (by omega)
        have hx := xor_nonneg (a := x * 131 + y * 1117 + p * 29 + d * 53) (b := Int.tdiv (x * 131 + y * 1117 + p * 29 + d * 53) 64) (by omega) (by omega) t0 (by omega)
        refine ⟨Int.tmod (Go.bits .xor .i64 (x * 131 + y * 1117 + p * 29 + d * 53) (Int.tdiv (x * 131 + y * 1117 + p * 29 + d * 53) 64)) m, fun k hk => ?_, Int.tmod_nonneg _ hx, fun _ => Int.tmod_lt_of_pos _ (by omega), hR⟩
        obtain ⟨k, rfl⟩ : ∃ j, k = j + 1 := ⟨k - 1, by omega⟩
        unfold spec_reader_pick.f
        rw [if_neg hz, e1, hb']
        simp only [spec_reader_pick.j0, Bool.false_eq_true, if_false, e2]
        rw [if_neg hlt, if_neg hb, if_pos q0, if_pos q1, e3, e4, if_pos s0, if_pos s1, if_neg (by omega)]
        rw [hxe, hye, hde, w64 (n := x) (by omega) (by omega), w64 (n := y) (by omega) (by omega), w64 (n := x * 131) (by omega) (by omega), w64 (n := y * 1117) (by omega) (by omega),
          w64 (n := x * 131 + y * 1117) (by omega) (by omega), w64 (n := p * 29) (by omega) (by omega), w64 (n := x * 131 + y * 1117 + p * 29) (by omega) (by omega),
          w64 (n := d) (by omega) (by omega), w64 (n := d * 53) (by omega) (by omega), w64 (n := x * 131 + y * 1117 + p * 29 + d * 53) (by omega) (by omega),
          w64 (n := Int.tdiv (x * 131 + y * 1117 + p * 29 + d * 53) 64) (by omega) (by omega)]

/-- One of some numbers, picked. -/
theorem one_some {b : List Int} {p n : Int} (h : RS b p n) (hn : n ≤ 1000000000) (l : List Int) (hl : 1 ≤ l.length) (hm : l.length ≤ 1000000) : ∃ r, (∀ k, 1 ≤ k → spec_reader_one.f k b p l = some (r, p + 1)) ∧ r ∈ l ∧ RS b (p + 1) (n + 1) := by
  obtain ⟨r, hr, r0, r1, hR⟩ := pick_some h hn (l.length : Int) (by omega)
  refine ⟨rd l r, fun k hk => ?_, rd_mem r0 (r1 (by omega)), hR⟩
  unfold spec_reader_one.f
  rw [hr k hk]
  simp only [Option.bind_some]
  rw [if_pos r0, if_pos (r1 (by omega))]

/-! Lists of numbers: held against each other, and bytes. -/

theorem rd_nat (l : List Int) (j : Nat) (h : j < l.length) : rd l (j : Int) = l[j] := by
  unfold rd; rw [Int.toNat_natCast, List.getD_eq_getElem?_getD, List.getElem?_eq_getElem h]; rfl

theorem w64s {j : Nat} (h : j ≤ 1000000000000) : wrap64 ((j : Int) + 1) = ((j + 1 : Nat) : Int) := by rw [w64 (by omega) (by omega)]; omega

/-- Not by unfolding: the kernel then has nothing to count. -/
theorem bsome {α β : Type} (a : α) (f : α → Option β) : (some a).bind f = f a := by
  cases h : (some a).bind f <;> simp_all

def inB (x : Int) : Bool := decide (0 ≤ x) && decide (x ≤ 255)

/-- One of some strings, picked. -/
theorem of_some {b : List Int} {p n : Int} (h : RS b p n) (hn : n ≤ 1000000000) (l : List ByteArray) (hl : 1 ≤ l.length) (hm : l.length ≤ 1000000) : ∃ r, (∀ k, 1 ≤ k → spec_reader_of.f k b p l = some (r, p + 1)) ∧ r ∈ l ∧ RS b (p + 1) (n + 1) := by
  obtain ⟨r, hr, r0, r1, hR⟩ := pick_some h hn (l.length : Int) (by omega)
  have r2 := r1 (by omega)
  refine ⟨rdOf ByteArray.empty l r, fun k hk => ?_, ?_, hR⟩
  · unfold spec_reader_of.f
    rw [hr k hk, bsome]
    rw [if_pos r0, if_pos r2]
  · unfold rdOf
    rw [List.getD_eq_getElem?_getD, List.getElem?_eq_getElem (by omega)]
    exact List.getElem_mem _

/-! Strings as the lists of their bytes. -/
def bl (s : ByteArray) : List Int := s.data.toList.map fun b => (b.toNat : Int)
theorem bl_len (s : ByteArray) : (bl s).length = s.size := by unfold bl; rw [List.length_map]; rfl
theorem bt_nat (s : ByteArray) (j : Nat) (h : j < s.size) : bt s (j : Int) = (bl s)[j]'(by rw [bl_len]; exact h) := by
  unfold bt bl
  rw [dif_pos (by simpa using h)]
  simp [ByteArray.getElem_eq_getElem_data]
theorem bl_byte (s : ByteArray) : ∀ x ∈ bl s, 0 ≤ x ∧ x ≤ 255 := by
  intro x hx
  obtain ⟨b, _, rfl⟩ := List.mem_map.1 hx
  have := b.toNat_lt
  omega
theorem bl_append (a b : ByteArray) : bl (a ++ b) = bl a ++ bl b := by simp [bl, ByteArray.data_append]
theorem bl_inj {a b : ByteArray} (h : bl a = bl b) : a = b := by
  have : a.data.toList = b.data.toList := by
    unfold bl at h
    exact (List.map_inj_right (fun x y e => UInt8.toNat_inj.1 (Int.ofNat.inj e))).1 h
  have h2 : a.data = b.data := Array.toList_inj.1 this
  cases a; cases b; simp_all
theorem bl_drop (s : ByteArray) (j : Nat) (h : j < s.size) : (bl s).drop j = bt s (j : Int) :: (bl s).drop (j + 1) := by
  rw [bt_nat s j h, List.drop_eq_getElem_cons (by rw [bl_len]; exact h)]

theorem dropWhile_all {α : Type} (p : α → Bool) : ∀ l : List α, l.all p = true → l.dropWhile p = []
  | [], _ => rfl
  | a :: l, h => by
    simp only [List.all_cons, Bool.and_eq_true] at h
    rw [List.dropWhile_cons, if_pos h.1]
    exact dropWhile_all p l h.2
theorem dropWhile_some {α : Type} (p : α → Bool) : ∀ l : List α, (∃ x ∈ l, p x = false) → ∃ x ∈ l.dropWhile p, p x = false
  | [], h => by obtain ⟨x, hx, _⟩ := h; cases hx
  | a :: l, h => by
    rw [List.dropWhile_cons]
    cases ha : p a with
    | true =>
      rw [if_pos rfl]
      refine dropWhile_some p l ?_
      obtain ⟨x, hx, hp⟩ := h
      rcases List.mem_cons.1 hx with rfl | hx
      · rw [ha] at hp; cases hp
      · exact ⟨x, hx, hp⟩
    | false => exact ⟨a, by simp, ha⟩
theorem trim_empty (l cs : List UInt8) : (Lib.trimS l cs != []) = !(l.all (cs.contains ·)) := by
  cases h : l.all (cs.contains ·) with
  | true =>
    have h2 : l.reverse.all (cs.contains ·) = true := by simpa using h
    unfold Lib.trimS Lib.trimRightS Lib.trimLeftS
    rw [dropWhile_all _ _ h2]
    rfl
  | false =>
    have h2 : ∃ x ∈ l.reverse, (fun x => cs.contains x) x = false := by
      have := List.all_eq_false.1 h
      obtain ⟨x, hx, hp⟩ := this
      exact ⟨x, by simpa using hx, by simpa using hp⟩
    obtain ⟨x, hx, hp⟩ := dropWhile_some _ _ h2
    obtain ⟨y, hy, _⟩ := dropWhile_some (fun x => cs.contains x) (Lib.trimRightS l cs) ⟨x, by simpa [Lib.trimRightS] using hx, hp⟩
    have hne : Lib.trimS l cs ≠ [] := by
      intro e
      unfold Lib.trimS Lib.trimLeftS at e
      rw [e] at hy
      cases hy
    simpa using hne
/-- Trim leaves nothing just where all bytes are of the set. -/
theorem Trim_some (s c : ByteArray) (hs : s.size ≤ 9223372036854775807) (hc : c.size < 4294967281) (ha : c.data.toList.all (fun b => decide (b.toNat < 128)) = true) :
    ∃ t, strings_Trim.f s c = some t ∧ (t.toList != ([] : List UInt8)) = !((bl s).all ((bl c).contains ·)) := by
  refine ⟨_, by unfold strings_Trim.f; rw [if_pos ⟨hs, hc, ha⟩], ?_⟩
  rw [ByteArray.toList_eq]
  show (Lib.trimS s.data.toList c.data.toList != []) = _
  rw [trim_empty]
  congr 1
  simp only [bl, List.all_map]
  congr 1
  funext x
  simp only [Function.comp]
  rw [Bool.eq_iff_iff]
  simp only [List.contains_iff_mem, List.mem_map]
  constructor
  · intro h; exact ⟨x, h, rfl⟩
  · rintro ⟨y, hy, e⟩
    have : y = x := UInt8.toNat_inj.1 (Int.ofNat.inj e)
    exact this ▸ hy

theorem equalInts_l0 (a b : List Int) (hl : a.length = b.length) (hn : a.length ≤ 1000000000) : ∀ (d j k : Nat), a.length - j = d → j ≤ a.length → d < k → laws_equalInts.l0 k a b (j : Int) = some (decide (a.drop j = b.drop j)) := by
  intro d
  induction d with
  | zero =>
    intro j k hd hj hk
    obtain ⟨k, rfl⟩ : ∃ m, k = m + 1 := ⟨k - 1, by omega⟩
    simp only [laws_equalInts.l0]
    rw [if_neg (by omega), List.drop_eq_nil_of_le (by omega), List.drop_eq_nil_of_le (by omega)]
    rfl
  | succ d ih =>
    intro j k hd hj hk
    obtain ⟨k, rfl⟩ : ∃ m, k = m + 1 := ⟨k - 1, by omega⟩
    simp only [laws_equalInts.l0]
    rw [if_pos (by omega), if_pos (by omega), if_pos (by omega), rd_nat a j (by omega), rd_nat b j (by omega), w64s (by omega), ih (j + 1) k (by omega) (by omega) (by omega)]
    rw [List.drop_eq_getElem_cons (l := a) (by omega : j < a.length), List.drop_eq_getElem_cons (l := b) (by omega : j < b.length)]
    by_cases h : a[j] = b[j]
    · rw [if_pos h, h]; simp only [List.cons.injEq, true_and]
    · rw [if_neg h]; simp only [List.cons.injEq, h, false_and, decide_false]

theorem equalInts_some (a b : List Int) (hn : a.length ≤ 1000000000) (k : Nat) (hk : a.length < k) : laws_equalInts.f k a b = some (decide (a = b)) := by
  unfold laws_equalInts.f
  split
  · rename_i h
    have := equalInts_l0 a b (by omega) hn a.length 0 k (by omega) (by omega) hk
    simpa using this
  · rename_i h
    have : a ≠ b := fun e => h (by rw [e])
    simp [this]

/-! Widths behind signs: both programs' loops come to the same list. -/
def halfOf (w : Int) : Int := mx (wrap64 (Int.tdiv w 2)) 1
def ws (limit : Int) : List Int → Int → Int → List Int
  | [], _, _ => []
  | c :: r, w, e => if c = 120 then halfOf w :: ws limit r (halfOf w) (halfOf w) else if c = 116 then 1 :: ws limit r 1 (halfOf w)
    else if w < e then mn (wrap64 (2 * w)) e :: ws limit r (mn (wrap64 (2 * w)) e) e else mn (wrap64 (w + 1)) limit :: ws limit r (mn (wrap64 (w + 1)) limit) e
theorem ws_len (limit : Int) : ∀ (l : List Int) (w e : Int), (ws limit l w e).length = l.length
  | [], _, _ => rfl
  | c :: r, w, e => by
    unfold ws
    (repeat' split) <;> simp only [List.length_cons, ws_len limit r]
theorem widths_l0 (limit : Int) (s : ByteArray) (hs : s.size ≤ 1000) : ∀ (d j k : Nat) (acc : List Int) (w e : Int), s.size - j = d → j ≤ s.size → acc.length ≤ j + 1 → d < k →
    spec_widths.l0 k limit s acc w e (j : Int) = some (acc ++ ws limit ((bl s).drop j) w e) := by
  intro d
  induction d with
  | zero =>
    intro j k acc w e hd hj ha hk
    obtain ⟨k, rfl⟩ : ∃ m, k = m + 1 := ⟨k - 1, by omega⟩
    simp only [spec_widths.l0]
    rw [if_neg (by omega), List.drop_eq_nil_of_le (by rw [bl_len]; omega)]
    simp [ws]
  | succ d ih =>
    intro j k acc w e hd hj ha hk
    obtain ⟨k, rfl⟩ : ∃ m, k = m + 1 := ⟨k - 1, by omega⟩
    simp only [spec_widths.l0]
    rw [if_pos (by omega), if_pos (by omega), w64s (by omega), bl_drop s j (by omega), ws]
    have key : ∀ x w' e', spec_widths.l0 k limit s (acc ++ [x]) w' e' ((j + 1 : Nat) : Int) = some (acc ++ x :: ws limit ((bl s).drop (j + 1)) w' e') := fun x w' e' => by
      rw [ih (j + 1) k (acc ++ [x]) w' e' (by omega) (by omega) (by simp; omega) (by omega)]
      simp
    by_cases h1 : bt s (j : Int) = 120
    · rw [if_pos h1, if_pos h1, if_pos (by omega)]; exact key _ _ _
    · rw [if_neg h1, if_neg h1]
      by_cases h2 : bt s (j : Int) = 116
      · rw [if_pos h2, if_pos h2, if_pos (by omega)]; exact key _ _ _
      · rw [if_neg h2, if_neg h2]
        by_cases h3 : w < e
        · rw [if_pos h3, if_pos h3, if_pos (by omega)]; exact key _ _ _
        · rw [if_neg h3, if_neg h3, if_pos (by omega)]; exact key _ _ _
def isSign (c : Int) : Bool := c == 111 || c == 120 || c == 116
/-- What WidthsOf answers. -/
def wout (limit : Int) (s : ByteArray) : List Int := if 1 ≤ limit ∧ limit ≤ 30 ∧ s.size ≤ 16 ∧ (bl s).all isSign = true then 1 :: ws limit (bl s) 1 limit else []
theorem specW_l0 (limit : Int) (s : ByteArray) (hs : s.size ≤ 1000) : ∀ (d j k : Nat), s.size - j = d → j ≤ s.size → d + s.size + 1 < k →
    spec_WidthsOf.l0 k limit s (j : Int) = some (if ((bl s).drop j).all isSign = true then 1 :: ws limit (bl s) 1 limit else []) := by
  intro d
  induction d with
  | zero =>
    intro j k hd hj hk
    obtain ⟨k, rfl⟩ : ∃ m, k = m + 1 := ⟨k - 1, by omega⟩
    simp only [spec_WidthsOf.l0]
    rw [if_neg (by omega), List.drop_eq_nil_of_le (by rw [bl_len]; omega)]
    unfold spec_widths.f
    have := widths_l0 limit s hs s.size 0 k [1] 1 limit (by omega) (by omega) (by simp) (by omega)
    rw [show ((0 : Nat) : Int) = 0 by rfl] at this
    rw [this, bsome]
    simp
  | succ d ih =>
    intro j k hd hj hk
    obtain ⟨k, rfl⟩ : ∃ m, k = m + 1 := ⟨k - 1, by omega⟩
    simp only [spec_WidthsOf.l0]
    rw [if_pos (by omega), if_pos (by omega), w64s (by omega), ih (j + 1) k (by omega) (by omega) (by omega), bl_drop s j (by omega), List.all_cons]
    generalize bt s (j : Int) = c
    by_cases h1 : c = 111
    · rw [if_pos h1]; simp [isSign, h1]
    · rw [if_neg h1]
      by_cases h2 : c = 120
      · rw [if_pos h2]; simp [isSign, h2]
      · rw [if_neg h2]
        by_cases h3 : c = 116
        · rw [if_pos h3]; simp [isSign, h3]
        · rw [if_neg h3]; simp [isSign, h1, h2, h3]
theorem specW_some (limit : Int) (s : ByteArray) (k : Nat) (hk : 100 ≤ k) : spec_WidthsOf.f k limit s = some (wout limit s) := by
  obtain ⟨k, rfl⟩ : ∃ m, k = m + 1 := ⟨k - 1, by omega⟩
  unfold spec_WidthsOf.f spec_inRange.f wout
  by_cases h1 : 1 ≤ limit
  · rw [if_pos h1, bsome]
    by_cases h2 : limit ≤ 30
    · rw [decide_eq_true h2, if_pos rfl]
      by_cases h3 : s.size ≤ 16
      · have e : decide ((s.size : Int) > 16) = false := by simp; omega
        rw [e]
        simp only [spec_WidthsOf.j0, Bool.false_eq_true, if_false]
        have := specW_l0 limit s (by omega) s.size 0 k (by omega) (by omega) (by omega)
        rw [show ((0 : Nat) : Int) = 0 by rfl, List.drop_zero] at this
        rw [this]
        simp [h1, h2, h3]
      · have e : decide ((s.size : Int) > 16) = true := by simp; omega
        rw [e]
        simp only [spec_WidthsOf.j0, if_true]
        rw [if_neg (by omega)]
    · rw [decide_eq_false h2, if_neg (by decide)]
      simp only [spec_WidthsOf.j0, if_true]
      rw [if_neg (by omega)]
  · rw [if_neg h1, bsome, if_neg (by decide)]
    simp only [spec_WidthsOf.j0, if_true]
    rw [if_neg (by omega)]
theorem implW_l0 (limit : Int) (s : ByteArray) (hs : s.size ≤ 1000) (ha : (bl s).all isSign = true) : ∀ (d j k : Nat) (acc : List Int) (w e : Int), s.size - j = d → j ≤ s.size → acc.length ≤ j + 1 → 2 * d < k →
    impl_WidthsOf.l0 k limit s e w acc (s.size : Int) (j : Int) = some (acc ++ ws limit ((bl s).drop j) w e) := by
  intro d
  induction d with
  | zero =>
    intro j k acc w e hd hj hl hk
    obtain ⟨k, rfl⟩ : ∃ m, k = m + 1 := ⟨k - 1, by omega⟩
    simp only [impl_WidthsOf.l0]
    rw [if_neg (by omega), List.drop_eq_nil_of_le (by rw [bl_len]; omega)]
    simp [ws]
  | succ d ih =>
    intro j k acc w e hd hj hl hk
    obtain ⟨k, rfl⟩ : ∃ m, k = m + 2 := ⟨k - 2, by omega⟩
    simp only [impl_WidthsOf.l0]
    rw [if_pos (by omega), if_pos (by omega), if_pos (by omega), bl_drop s j (by omega), ws]
    have key : ∀ x w' e', impl_WidthsOf.l0 k limit s e' w' (acc ++ [x]) (s.size : Int) ((j + 1 : Nat) : Int) = some (acc ++ x :: ws limit ((bl s).drop (j + 1)) w' e') := fun x w' e' => by
      rw [ih (j + 1) k (acc ++ [x]) w' e' (by omega) (by omega) (by simp; omega) (by omega)]
      simp
    have hc : isSign (bt s (j : Int)) = true := by
      rw [bt_nat s j (by omega)]
      exact List.all_eq_true.1 ha _ (List.getElem_mem _)
    by_cases h1 : bt s (j : Int) = 111
    · rw [if_pos h1, if_neg (show ¬ bt s (j : Int) = 120 by omega), if_neg (show ¬ bt s (j : Int) = 116 by omega)]
      by_cases h3 : w < e
      · rw [decide_eq_true h3, if_pos h3]
        simp only [impl_WidthsOf.j2, if_true]
        rw [if_pos (by omega), w64s (by omega)]; exact key _ _ _
      · rw [decide_eq_false h3, if_neg h3]
        simp only [impl_WidthsOf.j2, Bool.false_eq_true, if_false]
        rw [if_pos (by omega), if_pos (by omega), if_pos h1, if_pos (by omega), w64s (by omega)]; exact key _ _ _
    · rw [if_neg h1]
      simp only [impl_WidthsOf.j2, Bool.false_eq_true, if_false]
      rw [if_pos (by omega), if_pos (by omega), if_neg h1, w64s (by omega)]
      by_cases h2 : bt s (j : Int) = 116
      · rw [if_pos h2, if_neg (show ¬ bt s (j : Int) = 120 by omega), if_pos h2, if_pos (by omega)]; exact key _ _ _
      · have h4 : bt s (j : Int) = 120 := by simp [isSign, h1, h2] at hc; exact hc
        rw [if_neg h2, if_pos h4, if_pos (by omega)]; exact key _ _ _
theorem implW_some (limit : Int) (s : ByteArray) (k : Nat) (hk : 100 ≤ k) : impl_WidthsOf.f k limit s = some (wout limit s) := by
  obtain ⟨k, rfl⟩ : ∃ m, k = m + 1 := ⟨k - 1, by omega⟩
  unfold impl_WidthsOf.f impl_within.f wout
  by_cases h1 : 1 ≤ limit
  · rw [if_pos (show limit ≥ 1 from h1), bsome]
    by_cases h2 : limit ≤ 30
    · rw [decide_eq_true h2, if_pos rfl]
      by_cases h3 : s.size ≤ 16
      · rw [if_neg (by omega)]
        obtain ⟨t, ht, he⟩ := Trim_some s (⟨#[111, 120, 116]⟩ : ByteArray) (by omega) (by decide) (by decide)
        rw [ht, bsome, he]
        have hall : (bl s).all ((bl (⟨#[111, 120, 116]⟩ : ByteArray)).contains ·) = (bl s).all isSign := by
          congr 1
          funext x
          show List.contains [111, 120, 116] x = isSign x
          simp [isSign, List.contains, List.elem, Bool.or_assoc]
          cases x == 111 <;> cases x == 120 <;> cases x == 116 <;> rfl
        rw [hall]
        cases ha : (bl s).all isSign with
        | true =>
          simp only [Bool.not_true, impl_WidthsOf.j0, Bool.false_eq_true, if_false]
          have := implW_l0 limit s (by omega) ha s.size 0 k [1] 1 limit (by omega) (by omega) (by simp) (by omega)
          rw [show ((0 : Nat) : Int) = 0 by rfl, List.drop_zero] at this
          rw [this, if_pos ⟨h1, h2, h3, by trivial⟩]
          rfl
        | false =>
          simp only [Bool.not_false, impl_WidthsOf.j0, if_true]
          rw [if_neg (by simp)]
      · rw [if_pos (by omega)]
        simp only [impl_WidthsOf.j0, if_true]
        rw [if_neg (by omega)]
    · rw [decide_eq_false h2, if_neg (by decide)]
      simp only [impl_WidthsOf.j0, if_true]
      rw [if_neg (by omega)]
  · rw [if_neg (show ¬ limit ≥ 1 from h1), bsome, if_neg (by decide)]
    simp only [impl_WidthsOf.j0, if_true]
    rw [if_neg (by omega)]
theorem wout_len (limit : Int) (s : ByteArray) : (wout limit s).length ≤ 17 := by
  unfold wout
  split
  · rename_i h
    rw [List.length_cons, ws_len, bl_len]; omega
  · simp

theorem drawW_l0 {b : List Int} (x6 : Int) (hx : x6 ≤ 100) : ∀ (d k : Nat) (s : ByteArray) (p n : Int), RS b p n → n ≤ 1000 - d → (x6 - s.size).toNat = d → s.size ≤ 1000 → d + 2 ≤ k →
    ∃ r, spec_DrawWidthsOf.l0 k s x6 b p = some r := by
  intro d
  induction d with
  | zero =>
    intro k s p n hR hn hd hs hk
    obtain ⟨k, rfl⟩ : ∃ m, k = m + 1 := ⟨k - 1, by omega⟩
    simp only [spec_DrawWidthsOf.l0]
    rw [if_neg (by omega)]
    obtain ⟨r, hr, _, _, hR1⟩ := pick_some hR (by omega) 24 (by omega)
    rw [hr k (by omega), bsome]
    obtain ⟨q, hq, _, _⟩ := one_some hR1 (by omega) ([16, 30, 8, 5, 1, 31, 0] : List Int) (by simp) (by simp)
    simp only []
    split
    · rw [if_pos (by omega), hq k (by omega), bsome]; exact ⟨_, rfl⟩
    · rw [hq k (by omega), bsome]; exact ⟨_, rfl⟩
  | succ d ih =>
    intro k s p n hR hn hd hs hk
    obtain ⟨k, rfl⟩ : ∃ m, k = m + 1 := ⟨k - 1, by omega⟩
    simp only [spec_DrawWidthsOf.l0]
    rw [if_pos (by omega)]
    obtain ⟨t, ht, hm, hR1⟩ := of_some hR (by omega) ([(⟨#[111]⟩ : ByteArray), (⟨#[111]⟩ : ByteArray), (⟨#[111]⟩ : ByteArray), (⟨#[120]⟩ : ByteArray), (⟨#[116]⟩ : ByteArray), (⟨#[111]⟩ : ByteArray)]) (by simp) (by simp)
    have h1 : t.size = 1 := by
      simp only [List.mem_cons, List.not_mem_nil, or_false] at hm
      rcases hm with rfl | rfl | rfl | rfl | rfl | rfl <;> rfl
    rw [ht k (by omega), bsome]
    simp only []
    rw [if_pos (by omega)]
    have h2 : (s ++ t).size = s.size + 1 := by rw [ByteArray.size_append, h1]
    exact ih k (s ++ t) (p + 1) (n + 1) hR1 (by omega) (by rw [h2]; omega) (by omega) (by omega)
theorem drawW_some (l : List Int) (h : ∀ x ∈ l, (Lit.int .u8 x).wf = true) : ∃ r, spec_DrawWidthsOf.f 200 l = some r := by
  obtain ⟨b, hb, hR⟩ := newReader_some l h
  unfold spec_DrawWidthsOf.f
  rw [hb, bsome]
  obtain ⟨q, hq, hm, hR1⟩ := one_some hR (by omega) ([8, 12, 5, 16, 2, 0, 17] : List Int) (by simp) (by simp)
  simp only []
  rw [hq 200 (by omega), bsome]
  have h17 : 0 ≤ q ∧ q ≤ 17 := by
    simp only [List.mem_cons, List.not_mem_nil, or_false] at hm
    omega
  exact drawW_l0 q (by omega) q.toNat 200 (⟨#[]⟩ : ByteArray) 1 1 hR1 (by omega) (by simp [ByteArray.size]) (by simp [ByteArray.size]) (by omega)
theorem halfOf_eq (w : Int) (h : 1 ≤ w) (h2 : w ≤ 1000) : halfOf w = if w / 2 < 1 then 1 else w / 2 := by
  unfold halfOf mx
  rw [Int.tdiv_eq_ediv_of_nonneg (by omega), w64 (by omega) (by omega)]
theorem rd_cons0 (a : Int) (l : List Int) : rd (a :: l) 0 = a := rfl
theorem rd_cons_nat (a : Int) (l : List Int) (j : Nat) : rd (a :: l) ((j + 1 : Nat) : Int) = rd l (j : Int) := by
  unfold rd
  rw [Int.toNat_natCast, Int.toNat_natCast]
  rfl
theorem ws_ok (limit : Int) (hL : limit ≤ 30) : ∀ (l : List Int) (w e : Int), 1 ≤ w → w ≤ limit → 1 ≤ e → e ≤ limit → l.all isSign = true → ∀ j : Nat, j < l.length →
    1 ≤ rd (w :: ws limit l w e) ((j + 1 : Nat) : Int) ∧ rd (w :: ws limit l w e) ((j + 1 : Nat) : Int) ≤ limit ∧
    (rd l (j : Int) = 111 → rd (w :: ws limit l w e) (j : Int) ≤ rd (w :: ws limit l w e) ((j + 1 : Nat) : Int)) ∧
    (rd l (j : Int) ≠ 111 → rd (w :: ws limit l w e) ((j + 1 : Nat) : Int) ≤ halfOf (rd (w :: ws limit l w e) (j : Int))) := by
  intro l
  induction l with
  | nil => intro w e _ _ _ _ _ j hj; exact absurd hj (Nat.not_lt_zero _)
  | cons c r ih =>
    intro w e w0 w1 e0 e1 ha j hj
    simp only [List.all_cons, Bool.and_eq_true] at ha
    have hh := halfOf_eq w w0 (by omega)
    have hb : 1 ≤ halfOf w ∧ halfOf w ≤ limit := by rw [hh]; split <;> omega
    have hg : ∃ w' e', ws limit (c :: r) w e = w' :: ws limit r w' e' ∧ 1 ≤ w' ∧ w' ≤ limit ∧ 1 ≤ e' ∧ e' ≤ limit ∧ (c = 111 → w ≤ w') ∧ (c ≠ 111 → w' ≤ halfOf w) := by
      have hs : c = 111 ∨ c = 120 ∨ c = 116 := by
        have := ha.1
        simp [isSign] at this
        omega
      rcases hs with rfl | rfl | rfl
      · by_cases h : w < e
        · have : mn (wrap64 (2 * w)) e = if e < 2 * w then e else 2 * w := by unfold mn; rw [w64 (by omega) (by omega)]
          refine ⟨mn (wrap64 (2 * w)) e, e, by rw [ws, if_neg (by omega), if_neg (by omega), if_pos h], ?_⟩
          rw [this]
          refine ⟨?_, ?_, e0, e1, fun _ => ?_, fun h => absurd rfl h⟩ <;> split <;> omega
        · have : mn (wrap64 (w + 1)) limit = if limit < w + 1 then limit else w + 1 := by unfold mn; rw [w64 (by omega) (by omega)]
          refine ⟨mn (wrap64 (w + 1)) limit, e, by rw [ws, if_neg (by omega), if_neg (by omega), if_neg h], ?_⟩
          rw [this]
          refine ⟨?_, ?_, e0, e1, fun _ => ?_, fun h => absurd rfl h⟩ <;> split <;> omega
      · exact ⟨halfOf w, halfOf w, by rw [ws, if_pos rfl], hb.1, hb.2, hb.1, hb.2, fun h => by omega, fun _ => Int.le_refl _⟩
      · exact ⟨1, halfOf w, by rw [ws, if_neg (by omega), if_pos rfl], by omega, by omega, hb.1, hb.2, fun h => by omega, fun _ => hb.1⟩
    obtain ⟨w', e', he, a0, a1, b0, b1, c0, c1⟩ := hg
    rw [he]
    cases j with
    | zero => exact ⟨a0, a1, c0, c1⟩
    | succ j =>
      have := ih w' e' a0 a1 b0 b1 ha.2 j (by simpa using hj)
      rw [rd_cons_nat w, rd_cons_nat w, rd_cons_nat c]
      exact this
theorem lawW_l0 (limit : Int) (s : ByteArray) (out : List Int) (hs : s.size ≤ 16) (hl : out.length = s.size + 1) (h0 : rd out 0 = 1)
    (hok : ∀ j : Nat, j < s.size → 1 ≤ rd out ((j + 1 : Nat) : Int) ∧ rd out ((j + 1 : Nat) : Int) ≤ limit ∧ (bt s (j : Int) = 111 → rd out (j : Int) ≤ rd out ((j + 1 : Nat) : Int)) ∧
      (bt s (j : Int) ≠ 111 → rd out ((j + 1 : Nat) : Int) ≤ halfOf (rd out (j : Int)))) : ∀ (d j k : Nat), s.size - j = d → j ≤ s.size → d < k → laws_FnWidthsOf.l0 k limit s out (j : Int) = some true := by
  intro d
  induction d with
  | zero =>
    intro j k hd hj hk
    obtain ⟨k, rfl⟩ : ∃ m, k = m + 1 := ⟨k - 1, by omega⟩
    simp only [laws_FnWidthsOf.l0]
    rw [if_neg (by omega), if_pos (by omega), if_pos h0, w64s (by omega), hl]
    simp
  | succ d ih =>
    intro j k hd hj hk
    obtain ⟨k, rfl⟩ : ∃ m, k = m + 1 := ⟨k - 1, by omega⟩
    simp only [laws_FnWidthsOf.l0]
    obtain ⟨g0, g1, g2, g3⟩ := hok j (by omega)
    rw [if_pos (by omega), w64s (by omega), if_pos (by omega), if_pos (by omega), if_neg (by omega), if_neg (by omega), if_pos (by omega), ih (j + 1) k (by omega) (by omega) (by omega)]
    by_cases h : bt s (j : Int) = 111
    · rw [if_pos h, if_pos (by omega), if_neg (by have := g2 h; omega)]
    · rw [if_neg h, if_pos (by omega), if_neg (by have := g3 h; unfold halfOf at this; omega)]
theorem FnWidthsOf : laws_FnWidthsOf.Pure := by
  intro l _ _ hw
  obtain ⟨⟨limit, s⟩, hd⟩ := drawW_some l hw
  refine ⟨200, ?_⟩
  unfold laws_FnWidthsOf.f
  split
  · rfl
  · have hl := wout_len limit s
    rw [hd, bsome]
    simp only []
    rw [implW_some _ _ _ (by omega), bsome, specW_some _ _ _ (by omega), bsome, equalInts_some _ _ (by omega) _ (by omega), bsome, if_pos (by simp)]
    by_cases hc : 1 ≤ limit ∧ limit ≤ 30 ∧ s.size ≤ 16 ∧ (bl s).all isSign = true
    · have he : wout limit s = 1 :: ws limit (bl s) 1 limit := by unfold wout; rw [if_pos hc]
      rw [he]
      have hz : (((1 :: ws limit (bl s) 1 limit).length : Int) == 0) = false := by rw [List.length_cons, ws_len, bl_len]; simp; omega
      rw [hz]
      simp only [laws_FnWidthsOf.j0, Bool.false_eq_true, if_false]
      refine lawW_l0 limit s _ hc.2.2.1 (by rw [List.length_cons, ws_len, bl_len]) rfl (fun j hj => ?_) s.size 0 199 (by omega) (by omega) (by omega)
      have := ws_ok limit hc.2.1 (bl s) 1 limit (by omega) hc.1 hc.1 (by omega) hc.2.2.2 j (by rw [bl_len]; exact hj)
      rw [rd_nat (bl s) j (by rw [bl_len]; exact hj), ← bt_nat s j hj] at this
      exact this
    · have he : wout limit s = [] := by unfold wout; rw [if_neg hc]
      rw [he]
      simp only [List.length_nil, laws_FnWidthsOf.j0]
      rw [if_pos (by simp), specW_some _ _ _ (by omega), bsome, he, equalInts_some _ _ (by simp) _ (by simp), bsome]
      simp

end Go.Proofs.YtkfbmpllbcladaaDoor.Pure
