/- The pure part of FnBlindOf: the Lean function of the law answers true for every argument. -/
import Derived.Test.YtmkcmkkpeimldaaDoorPx0
import Derived.Test.YtmkcmkkpeimldaaDoorPx1
import Derived.Test.YtmkcmkkpeimldaaDoorPx10
import Derived.Test.YtmkcmkkpeimldaaDoorPx11
import Derived.Test.YtmkcmkkpeimldaaDoorPx12
import Derived.Test.YtmkcmkkpeimldaaDoorPx13
import Derived.Test.YtmkcmkkpeimldaaDoorPx14
import Derived.Test.YtmkcmkkpeimldaaDoorPx15
import Derived.Test.YtmkcmkkpeimldaaDoorPx19
import Derived.Test.YtmkcmkkpeimldaaDoorPx2
import Derived.Test.YtmkcmkkpeimldaaDoorPx20
import Derived.Test.YtmkcmkkpeimldaaDoorPx21
import Derived.Test.YtmkcmkkpeimldaaDoorPx23
import Derived.Test.YtmkcmkkpeimldaaDoorPx3
import Derived.Test.YtmkcmkkpeimldaaDoorPx35
import Derived.Test.YtmkcmkkpeimldaaDoorPx36
import Derived.Test.YtmkcmkkpeimldaaDoorPx37
import Derived.Test.YtmkcmkkpeimldaaDoorPx4
import Derived.Test.YtmkcmkkpeimldaaDoorPx5
import Derived.Test.YtmkcmkkpeimldaaDoorPx6
import Derived.Test.YtmkcmkkpeimldaaDoorPx7
import Derived.Test.YtmkcmkkpeimldaaDoorPx8
import Derived.Test.YtmkcmkkpeimldaaDoorPx9
namespace Go.Proofs.YtmkcmkkpeimldaaDoor.Pure
open Go.RowKit Go.Proofs.YtmkcmkkpeimldaaDoor.P Go.Proofs.YtmkcmkkpeimldaaDoorW.PrintWords Go.Proofs.YtmkcmkkpeimldaaDoorW.PrintLast
set_option linter.unusedVariables false
set_option linter.unusedSimpArgs false

/-! The reader of the drawn arguments: what is picked lies in its range, whatever the code. -/

theorem w64 {n : Int} (h0 : -9223372036854775808 ≤ n) (h1 : n ≤ 9223372036854775807) : wrap64 n = n := by unfold wrap64; omega

theorem xor_nonneg {a b : Int} (ha : 0 ≤ a) (ha' : a < 9223372036854775808) (hb : 0 ≤ b) (hb' : b < 9223372036854775808) : 0 ≤ Go.bits .xor .i64 a b := by
  obtain ⟨x, rfl⟩ := Int.eq_ofNat_of_zero_le ha
  obtain ⟨y, rfl⟩ := Int.eq_ofNat_of_zero_le hb
  have h1 : x ^^^ y < 2 ^ 63 := Nat.xor_lt_two_pow (by omega) (by omega)
  have hx : x % 2 ^ IntKind.i64.bits = x := Nat.mod_eq_of_lt (by simp [IntKind.bits]; omega)
  have hy : y % 2 ^ IntKind.i64.bits = y := Nat.mod_eq_of_lt (by simp [IntKind.bits]; omega)
  simp only [Go.bits, BitVec.ofInt_natCast, BitVec.toNat_xor, BitVec.toNat_ofNat, hx, hy]
  generalize x ^^^ y = z at *
  have e : (↑z : Int) % 2 ^ 64 = z := Int.emod_eq_of_lt (by omega) (by omega)
  simp only [IntKind.wrap, IntKind.bits, IntKind.signed, e]
  rw [if_neg (by simp; omega)]
  omega

/-- A reader's state: bytes, few, and a place. -/
structure RS (b : List Int) (p n : Int) : Prop where
  (len : b.length ≤ 2000) (byte : ∀ x ∈ b, 0 ≤ x ∧ x ≤ 255) (p0 : 0 ≤ p) (pn : p ≤ n)

theorem RS.le {b : List Int} {p n m : Int} (h : RS b p n) (hm : n ≤ m) : RS b p m := ⟨h.len, h.byte, h.p0, Int.le_trans h.pn hm⟩

theorem rd_mem {b : List Int} {i : Int} (h0 : 0 ≤ i) (h1 : i < b.length) : rd b i ∈ b := by
  unfold rd
  rw [List.getD_eq_getElem?_getD, List.getElem?_eq_getElem (by omega)]
  exact List.getElem_mem _

theorem rd_byte {b : List Int} (h : ∀ x ∈ b, 0 ≤ x ∧ x ≤ 255) (i : Int) : 0 ≤ rd b i ∧ rd b i ≤ 255 := by
  by_cases hi : i.toNat < b.length
  · unfold rd
    rw [List.getD_eq_getElem?_getD, List.getElem?_eq_getElem hi]
    exact h _ (List.getElem_mem _)
  · unfold rd
    rw [List.getD_eq_getElem?_getD, List.getElem?_eq_none (by omega)]
    simp

theorem newReader_some (l : List Int) (h : ∀ x ∈ l, (Lit.int .u8 x).wf = true) : ∃ b, spec_newReader.f l = some (b, 0) ∧ RS b 0 0 := by
  have hb : ∀ x ∈ l, 0 ≤ x ∧ x ≤ 255 := by
    intro x hx
    have := h x hx
    simp [Lit.wf, IntKind.min, IntKind.max, IntKind.signed, IntKind.bits] at this
    omega
  unfold spec_newReader.f
  split
  · rw [if_pos (by omega)]
    exact ⟨_, rfl, by simp; omega, fun x hx => hb x (List.mem_of_mem_take hx), by omega, by omega⟩
  · exact ⟨_, rfl, by omega, hb, by omega, by omega⟩

/-- A number picked: in its range. -/
theorem pick_some {b : List Int} {p n : Int} (h : RS b p n) (hn : n ≤ 1000000000) (m : Int) (hm : m ≤ 1000000000000) : ∃ r, (∀ k, 1 ≤ k → spec_reader_pick.f k b p m = some (r, p + 1)) ∧ 0 ≤ r ∧ (1 ≤ m → r < m) ∧ RS b (p + 1) (n + 1) := by
  have p0 := h.p0; have pn := h.pn; have hl := h.len
  have hR : RS b (p + 1) (n + 1) := ⟨hl, h.byte, by omega, by omega⟩
  have e1 : wrap64 (p + 1) = p + 1 := w64 (by omega) (by omega)
  have e2 : wrap64 (p + 1 - 1) = p := by rw [w64 (by omega) (by omega)]; omega
  by_cases hz : m < 1
  · refine ⟨0, fun k hk => ?_, by omega, by omega, hR⟩
    obtain ⟨k, rfl⟩ : ∃ j, k = j + 1 := ⟨k - 1, by omega⟩
    unfold spec_reader_pick.f
    rw [if_pos hz, e1]
    simp only [spec_reader_pick.j0, if_true]
  · by_cases hb : (b.length : Int) = 0
    · refine ⟨0, fun k hk => ?_, by omega, by omega, hR⟩
      obtain ⟨k, rfl⟩ : ∃ j, k = j + 1 := ⟨k - 1, by omega⟩
      unfold spec_reader_pick.f
      rw [if_neg hz, e1]
      have : ((b.length : Int) == 0) = true := by simpa using hb
      rw [this]
      simp only [spec_reader_pick.j0, if_true]
    · have hb' : ((b.length : Int) == 0) = false := by simpa using hb
      by_cases hlt : p < (b.length : Int)
      · obtain ⟨x0, x1⟩ := rd_byte h.byte p
        refine ⟨Int.tmod (rd b p) m, fun k hk => ?_, ?_, ?_, hR⟩
        · obtain ⟨k, rfl⟩ : ∃ j, k = j + 1 := ⟨k - 1, by omega⟩
          unfold spec_reader_pick.f
          rw [if_neg hz, e1, hb']
          simp only [spec_reader_pick.j0, Bool.false_eq_true, if_false, e2]
          rw [if_pos hlt, if_pos p0, if_neg (by omega), w64 (n := rd b p) (by omega) (by omega)]
        · exact Int.tmod_nonneg _ x0
        · intro _; exact Int.tmod_lt_of_pos _ (by omega)
      · have q0 : 0 ≤ Int.tmod p (b.length : Int) := Int.tmod_nonneg _ p0
        have q1 : Int.tmod p (b.length : Int) < b.length := Int.tmod_lt_of_pos _ (by omega)
        have e3 : wrap64 (p * 7) = p * 7 := w64 (by omega) (by omega)
        have e4 : wrap64 (p * 7 + 3) = p * 7 + 3 := w64 (by omega) (by omega)
        have s0 : 0 ≤ Int.tmod (p * 7 + 3) (b.length : Int) := Int.tmod_nonneg _ (by omega)
        have s1 : Int.tmod (p * 7 + 3) (b.length : Int) < b.length := Int.tmod_lt_of_pos _ (by omega)
        obtain ⟨x0, x1⟩ := rd_byte h.byte (Int.tmod p (b.length : Int))
        obtain ⟨y0, y1⟩ := rd_byte h.byte (Int.tmod (p * 7 + 3) (b.length : Int))
        have d0 : 0 ≤ Int.tdiv p (b.length : Int) := Int.tdiv_nonneg p0 (by omega)
        have d1 : Int.tdiv p (b.length : Int) ≤ p := by
          rw [Int.tdiv_eq_ediv_of_nonneg p0]
          exact Int.ediv_le_self _ p0
        generalize hxe : rd b (Int.tmod p (b.length : Int)) = x at *
        generalize hye : rd b (Int.tmod (p * 7 + 3) (b.length : Int)) = y at *
        generalize hde : Int.tdiv p (b.length : Int) = d at *
        have t0 : 0 ≤ Int.tdiv (x * 131 + y * 1117 + p * 29 + d * 53) 64 := Int.tdiv_nonneg (by omega) (by omega)
        have t1 : Int.tdiv (x * 131 + y * 1117 + p * 29 + d * 53) 64 ≤ x * 131 + y * 1117 + p * 29 + d * 53 := by
          rw [Int.tdiv_eq_ediv_of_nonneg (by omega)]
          exact Int.ediv_le_self _ (by omega)
        have hx := xor_nonneg (a := x * 131 + y * 1117 + p * 29 + d * 53) (b := Int.tdiv (x * 131 + y * 1117 + p * 29 + d * 53) 64) (by omega) (by omega) t0 (by omega)
        refine ⟨Int.tmod (Go.bits .xor .i64 (x * 131 + y * 1117 + p * 29 + d * 53) (Int.tdiv (x * 131 + y * 1117 + p * 29 + d * 53) 64)) m, fun k hk => ?_, Int.tmod_nonneg _ hx, fun _ => Int.tmod_lt_of_pos _ (by omega), hR⟩
        obtain ⟨k, rfl⟩ : ∃ j, k = j + 1 := ⟨k - 1, by omega⟩
        unfold spec_reader_pick.f
        rw [if_neg hz, e1, hb']
        simp only [spec_reader_pick.j0, Bool.false_eq_true, if_false, e2]
        rw [if_neg hlt, if_neg hb, if_pos q0, if_pos q1, e3, e4, if_pos s0, if_pos s1, if_neg (by omega)]
        rw [hxe, hye, hde, w64 (n := x) (by omega) (by omega), w64 (n := y) (by omega) (by omega), w64 (n := x * 131) (by omega) (by omega), w64 (n := y * 1117) (by omega) (by omega),
          w64 (n := x * 131 + y * 1117) (by omega) (by omega), w64 (n := p * 29) (by omega) (by omega), w64 (n := x * 131 + y * 1117 + p * 29) (by omega) (by omega),
          w64 (n := d) (by omega) (by omega), w64 (n := d * 53) (by omega) (by omega), w64 (n := x * 131 + y * 1117 + p * 29 + d * 53) (by omega) (by omega),
          w64 (n := Int.tdiv (x * 131 + y * 1117 + p * 29 + d * 53) 64) (by omega) (by omega)]

/-- One of some numbers, picked. -/
theorem one_some {b : List Int} {p n : Int} (h : RS b p n) (hn : n ≤ 1000000000) (l : List Int) (hl : 1 ≤ l.length) (hm : l.length ≤ 1000000) : ∃ r, (∀ k, 1 ≤ k → spec_reader_one.f k b p l = some (r, p + 1)) ∧ r ∈ l ∧ RS b (p + 1) (n + 1) := by
  obtain ⟨r, hr, r0, r1, hR⟩ := pick_some h hn (l.length : Int) (by omega)
  refine ⟨rd l r, fun k hk => ?_, rd_mem r0 (r1 (by omega)), hR⟩
  unfold spec_reader_one.f
  rw [hr k hk]
  simp only [Option.bind_some]
  rw [if_pos r0, if_pos (r1 (by omega))]

/-! Lists of numbers: held against each other, and bytes. -/

theorem rd_nat (l : List Int) (j : Nat) (h : j < l.length) : rd l (j : Int) = l[j] := by
  unfold rd; rw [Int.toNat_natCast, List.getD_eq_getElem?_getD, List.getElem?_eq_getElem h]; rfl

theorem w64s {j : Nat} (h : j ≤ 1000000000000) : wrap64 ((j : Int) + 1) = ((j + 1 : Nat) : Int) := by rw [w64 (by omega) (by omega)]; omega

/-- Not by unfolding: the kernel then has nothing to count. -/
theorem bsome {α β : Type} (a : α) (f : α → Option β) : (some a).bind f = f a := by
  cases h : (some a).bind f <;> simp_all

def inB (x : Int) : Bool := decide (0 ≤ x) && decide (x ≤ 255)

/-! Strings as the lists of their bytes. -/
def bl (s : ByteArray) : List Int := s.data.toList.map fun b => (b.toNat : Int)
theorem bl_len (s : ByteArray) : (bl s).length = s.size := by unfold bl; rw [List.length_map]; rfl
theorem bt_nat (s : ByteArray) (j : Nat) (h : j < s.size) : bt s (j : Int) = (bl s)[j]'(by rw [bl_len]; exact h) := by
  unfold bt bl
  rw [dif_pos (by simpa using h)]
  simp [ByteArray.getElem_eq_getElem_data]
theorem bl_byte (s : ByteArray) : ∀ x ∈ bl s, 0 ≤ x ∧ x ≤ 255 := by
  intro x hx
  obtain ⟨b, _, rfl⟩ := List.mem_map.1 hx
  have := b.toNat_lt
  omega
theorem bl_append (a b : ByteArray) : bl (a ++ b) = bl a ++ bl b := by simp [bl, ByteArray.data_append]
theorem bl_inj {a b : ByteArray} (h : bl a = bl b) : a = b := by
  have : a.data.toList = b.data.toList := by
    unfold bl at h
    exact (List.map_inj_right (fun x y e => UInt8.toNat_inj.1 (Int.ofNat.inj e))).1 h
  have h2 : a.data = b.data := Array.toList_inj.1 this
  cases a; cases b; simp_all
theorem bl_drop (s : ByteArray) (j : Nat) (h : j < s.size) : (bl s).drop j = bt s (j : Int) :: (bl s).drop (j + 1) := by
  rw [bt_nat s j h, List.drop_eq_getElem_cons (by rw [bl_len]; exact h)]

theorem dropWhile_all {α : Type} (p : α → Bool) : ∀ l : List α, l.all p = true → l.dropWhile p = []
  | [], _ => rfl
  | a :: l, h => by
    simp only [List.all_cons, Bool.and_eq_true] at h
    rw [List.dropWhile_cons, if_pos h.1]
    exact dropWhile_all p l h.2
theorem dropWhile_some {α : Type} (p : α → Bool) : ∀ l : List α, (∃ x ∈ l, p x = false) → ∃ x ∈ l.dropWhile p, p x = false
  | [], h => by obtain ⟨x, hx, _⟩ := h; cases hx
  | a :: l, h => by
    rw [List.dropWhile_cons]
    cases ha : p a with
    | true =>
      rw [if_pos rfl]
      refine dropWhile_some p l ?_
      obtain ⟨x, hx, hp⟩ := h
      rcases List.mem_cons.1 hx with rfl | hx
      · rw [ha] at hp; cases hp
      · exact ⟨x, hx, hp⟩
    | false => exact ⟨a, by simp, ha⟩
theorem trim_empty (l cs : List UInt8) : (Lib.trimS l cs != []) = !(l.all (cs.contains ·)) := by
  cases h : l.all (cs.contains ·) with
  | true =>
    have h2 : l.reverse.all (cs.contains ·) = true := by simpa using h
    unfold Lib.trimS Lib.trimRightS Lib.trimLeftS
    rw [dropWhile_all _ _ h2]
    rfl
  | false =>
    have h2 : ∃ x ∈ l.reverse, (fun x => cs.contains x) x = false := by
      have := List.all_eq_false.1 h
      obtain ⟨x, hx, hp⟩ := this
      exact ⟨x, by simpa using hx, by simpa using hp⟩
    obtain ⟨x, hx, hp⟩ := dropWhile_some _ _ h2
    obtain ⟨y, hy, _⟩ := dropWhile_some (fun x => cs.contains x) (Lib.trimRightS l cs) ⟨x, by simpa [Lib.trimRightS] using hx, hp⟩
    have hne : Lib.trimS l cs ≠ [] := by
      intro e
      unfold Lib.trimS Lib.trimLeftS at e
      rw [e] at hy
      cases hy
    simpa using hne
/-- Trim leaves nothing just where all bytes are of the set. -/
theorem Trim_some (s c : ByteArray) (hs : s.size ≤ 9223372036854775807) (hc : c.size < 4294967281) (ha : c.data.toList.all (fun b => decide (b.toNat < 128)) = true) :
    ∃ t, strings_Trim.f s c = some t ∧ (t.toList != ([] : List UInt8)) = !((bl s).all ((bl c).contains ·)) := by
  refine ⟨_, by unfold strings_Trim.f; rw [if_pos ⟨hs, hc, ha⟩], ?_⟩
  rw [ByteArray.toList_eq]
  show (Lib.trimS s.data.toList c.data.toList != []) = _
  rw [trim_empty]
  congr 1
  simp only [bl, List.all_map]
  congr 1
  funext x
  simp only [Function.comp]
  rw [Bool.eq_iff_iff]
  simp only [List.contains_iff_mem, List.mem_map]
  constructor
  · intro h; exact ⟨x, h, rfl⟩
  · rintro ⟨y, hy, e⟩
    have : y = x := UInt8.toNat_inj.1 (Int.ofNat.inj e)
    exact this ▸ hy

/-! Strings made of lists. -/
def tb (l : List Int) : ByteArray := ⟨(l.map fun x => UInt8.ofNat x.toNat).toArray⟩
theorem tb_bl (s : ByteArray) : tb (bl s) = s := by
  have : (bl s).map (fun x => UInt8.ofNat x.toNat) = s.data.toList := by
    unfold bl
    rw [List.map_map]
    conv => rhs; rw [← List.map_id s.data.toList]
    refine List.map_congr_left fun b _ => ?_
    simp
  unfold tb
  rw [this]
theorem bl_tb (l : List Int) (h : ∀ x ∈ l, 0 ≤ x ∧ x ≤ 255) : bl (tb l) = l := by
  unfold bl tb
  simp only [List.map_map]
  conv => rhs; rw [← List.map_id l]
  refine List.map_congr_left fun x hx => ?_
  have := h x hx
  simp only [Function.comp, UInt8.toNat_ofNat', id]
  omega
theorem tb_append (a b : List Int) : tb (a ++ b) = tb a ++ tb b := by
  have : (tb (a ++ b)).data = (tb a ++ tb b).data := by simp [tb, ByteArray.data_append]
  exact ByteArray.ext this
theorem tb_len (l : List Int) : (tb l).size = l.length := by simp [tb, ByteArray.size]
theorem app_nil (s : ByteArray) : s ++ tb [] = s := by
  have : (s ++ tb []).data = s.data := by simp [tb, ByteArray.data_append]
  exact ByteArray.ext this
theorem nil_app (s : ByteArray) : tb [] ++ s = s := by
  have : (tb [] ++ s).data = s.data := by simp [tb, ByteArray.data_append]
  exact ByteArray.ext this
theorem app_assoc (a b c : ByteArray) : a ++ b ++ c = a ++ (b ++ c) := by
  have : (a ++ b ++ c).data = (a ++ (b ++ c)).data := by simp [ByteArray.data_append]
  exact ByteArray.ext this
theorem bl_extract (s : ByteArray) (i j : Nat) : bl (s.extract i j) = ((bl s).drop i).take (j - i) := by
  unfold bl
  rw [ByteArray.data_extract, Array.toList_extract, List.extract_eq_take_drop, List.map_take, List.map_drop]
theorem extract_one (s : ByteArray) (j : Nat) (h : j < s.size) : s.extract j (j + 1) = tb [bt s (j : Int)] := by
  apply bl_inj
  have hb := bl_byte s (bt s (j : Int)) (by rw [bt_nat s j h]; exact List.getElem_mem _)
  rw [bl_extract, bl_tb _ (by simpa using hb), bl_drop s j h, show j + 1 - j = 1 by omega]
  rfl
theorem toList_eq_iff (a b : ByteArray) : a.toList = b.toList ↔ a = b := by
  rw [ByteArray.toList_eq, ByteArray.toList_eq]
  constructor
  · intro h
    exact ByteArray.ext (Array.toList_inj.1 h)
  · rintro rfl; rfl
theorem toList_nil_iff (a : ByteArray) : a.toList = ([] : List UInt8) ↔ a.size = 0 := by
  rw [ByteArray.toList_eq]
  show a.data.toList = [] ↔ a.data.size = 0
  rw [← Array.length_toList]
  exact List.length_eq_zero_iff.symm
def isBit (c : Int) : Bool := c == 48 || c == 49
theorem isBit_iff (c : Int) : isBit c = true ↔ c = 48 ∨ c = 49 := by simp [isBit]

/-! Bits: which strings are bits, stuffed and unstuffed. -/
def okBits (s : ByteArray) : Bool := (bl s).all isBit
theorem validBits_l0 (s : ByteArray) (hs : s.size ≤ 1000000000) : ∀ (d j k : Nat), s.size - j = d → j ≤ s.size → d < k → spec_validBits.l0 k s (j : Int) = some (((bl s).drop j).all isBit && decide (s.size ≤ 40)) := by
  intro d
  induction d with
  | zero =>
    intro j k hd hj hk
    obtain ⟨k, rfl⟩ : ∃ m, k = m + 1 := ⟨k - 1, by omega⟩
    simp only [spec_validBits.l0]
    rw [if_neg (by omega), List.drop_eq_nil_of_le (by rw [bl_len]; omega)]
    simp only [List.all_nil, Bool.true_and, Option.some.injEq, decide_eq_decide]
    omega
  | succ d ih =>
    intro j k hd hj hk
    obtain ⟨k, rfl⟩ : ∃ m, k = m + 1 := ⟨k - 1, by omega⟩
    simp only [spec_validBits.l0]
    rw [if_pos (by omega), if_pos (by omega), w64s (by omega), ih (j + 1) k (by omega) (by omega) (by omega), bl_drop s j (by omega), List.all_cons]
    generalize bt s (j : Int) = c
    by_cases h1 : c = 48
    · rw [if_pos h1]; simp [isBit, h1]
    · rw [if_neg h1]
      by_cases h2 : c = 49
      · rw [if_pos h2]; simp [isBit, h2]
      · rw [if_neg h2]; simp [isBit, h1, h2]
theorem validBits_some (s : ByteArray) (hs : s.size ≤ 1000000000) (k : Nat) (hk : s.size < k) : spec_validBits.f k s = some (okBits s && decide (s.size ≤ 40)) := by
  unfold spec_validBits.f okBits
  have := validBits_l0 s hs s.size 0 k (by omega) (by omega) hk
  simpa using this
theorem bitsAlone_some (s : ByteArray) (hs : s.size ≤ 1000000000) : impl_bitsAlone.f s = some (okBits s) := by
  unfold impl_bitsAlone.f
  obtain ⟨t, ht, he⟩ := Trim_some s (⟨#[48, 49]⟩ : ByteArray) (by omega) (by decide) (by decide)
  rw [ht, bsome]
  have hall : (bl s).all ((bl (⟨#[48, 49]⟩ : ByteArray)).contains ·) = okBits s := by
    unfold okBits
    congr 1
    funext x
    show List.contains [48, 49] x = isBit x
    simp [isBit, List.contains, List.elem]
    cases x == 48 <;> cases x == 49 <;> rfl
  rw [hall] at he
  have : (t.toList == ([] : List UInt8)) = okBits s := by
    cases h : okBits s <;> rw [h] at he <;> simpa using he
  rw [this]
theorem valid_some (s : ByteArray) (hs : s.size ≤ 1000000000) : impl_ValidBits.f s = some (okBits s && decide (s.size ≤ 40)) := by
  unfold impl_ValidBits.f
  by_cases h : (s.size : Int) ≤ 40
  · rw [if_pos h, bitsAlone_some s hs, bsome]
    simp [show s.size ≤ 40 by omega]
  · rw [if_neg h]
    simp [show ¬ s.size ≤ 40 by omega]
def stf : Int → List Int → List Int
  | _, [] => []
  | n, c :: r => if c = 49 then (if n + 1 = 5 then c :: 48 :: stf 0 r else c :: stf (n + 1) r) else c :: stf 0 r
def uim : Int → List Int → List Int
  | _, [] => []
  | n, c :: r => if n = 5 then uim 0 r else c :: uim (if c = 49 then n + 1 else 0) r
def usp : Int → List Int → Option (List Int)
  | n, [] => if n < 5 then some [] else none
  | n, c :: r => if n = 5 then (if c = 49 then none else usp 0 r) else (usp (if c = 49 then n + 1 else 0) r).map (c :: ·)
theorem stf_len : ∀ (l : List Int) (n : Int), 0 ≤ n → n ≤ 4 → ((stf n l).length : Int) ≤ l.length + (l.length + n) / 5
  | [], n, h0, h1 => by simp [stf]; omega
  | c :: r, n, h0, h1 => by
    unfold stf
    have a := stf_len r 0 (by omega) (by omega)
    split
    · split
      · simp only [List.length_cons]; omega
      · have b := stf_len r (n + 1) (by omega) (by omega)
        simp only [List.length_cons]; omega
    · simp only [List.length_cons]; omega
theorem stf_bits : ∀ (l : List Int) (n : Int), l.all isBit = true → (stf n l).all isBit = true
  | [], n, h => rfl
  | c :: r, n, h => by
    simp only [List.all_cons, Bool.and_eq_true] at h
    unfold stf
    split
    · split <;> simp only [List.all_cons, h.1, stf_bits r _ h.2, Bool.and_true, Bool.true_and]
      rfl
    · simp only [List.all_cons, h.1, stf_bits r _ h.2, Bool.and_true]
theorem stf_byte : ∀ (l : List Int) (n : Int), (∀ x ∈ l, 0 ≤ x ∧ x ≤ 255) → ∀ x ∈ stf n l, 0 ≤ x ∧ x ≤ 255
  | [], n, h => by intro x hx; cases hx
  | c :: r, n, h => by
    have a := fun m => stf_byte r m (fun x hx => h x (List.mem_cons_of_mem _ hx))
    have b := h c (List.mem_cons_self ..)
    intro x hx
    unfold stf at hx
    split at hx
    · split at hx
      · rcases List.mem_cons.1 hx with rfl | hx
        · exact b
        · rcases List.mem_cons.1 hx with rfl | hx
          · omega
          · exact a _ x hx
      · rcases List.mem_cons.1 hx with rfl | hx
        · exact b
        · exact a _ x hx
    · rcases List.mem_cons.1 hx with rfl | hx
      · exact b
      · exact a _ x hx
theorem uim_len : ∀ (l : List Int) (n : Int), (uim n l).length ≤ l.length
  | [], n => by simp [uim]
  | c :: r, n => by
    unfold uim
    split
    · have := uim_len r 0; simp only [List.length_cons]; omega
    · have := uim_len r (if c = 49 then n + 1 else 0); simp only [List.length_cons]; omega
theorem uim_bits : ∀ (l : List Int) (n : Int), l.all isBit = true → (uim n l).all isBit = true
  | [], n, h => rfl
  | c :: r, n, h => by
    simp only [List.all_cons, Bool.and_eq_true] at h
    unfold uim
    split
    · exact uim_bits r _ h.2
    · simp only [List.all_cons, h.1, uim_bits r _ h.2, Bool.and_true]
/-- Stuffed, then unstuffed. -/
theorem uim_stf : ∀ (l : List Int) (n : Int), l.all isBit = true → 0 ≤ n → n ≤ 4 → uim n (stf n l) = l
  | [], n, h, h0, h1 => by simp [stf, uim]
  | c :: r, n, h, h0, h1 => by
    simp only [List.all_cons, Bool.and_eq_true] at h
    unfold stf
    by_cases hc : c = 49
    · rw [if_pos hc]
      by_cases h5 : n + 1 = 5
      · rw [if_pos h5, uim, if_neg (by omega), if_pos hc, h5, uim, if_pos rfl, uim_stf r 0 h.2 (by omega) (by omega)]
      · rw [if_neg h5, uim, if_neg (by omega), if_pos hc, uim_stf r (n + 1) h.2 (by omega) (by omega)]
    · rw [if_neg hc, uim, if_neg (by omega), if_neg hc, uim_stf r 0 h.2 (by omega) (by omega)]
/-- Both ways to unstuff agree. -/
theorem usp_eq : ∀ (N : Nat) (l : List Int) (n : Int), l.length ≤ N → l.all isBit = true → 0 ≤ n → n ≤ 4 → usp n l = if stf n (uim n l) = l then some (uim n l) else none := by
  intro N
  induction N with
  | zero =>
    intro l n hN _ h0 h1
    have : l = [] := List.eq_nil_of_length_eq_zero (by omega)
    subst this
    simp [usp, uim, stf]; omega
  | succ N ih =>
    intro l n hN hb h0 h1
    match l, hN, hb with
    | [], _, _ => simp [usp, uim, stf]; omega
    | c :: r, hN, hb =>
      simp only [List.all_cons, Bool.and_eq_true] at hb
      simp only [List.length_cons] at hN
      have n5 : ¬ n = 5 := by omega
      rw [usp, uim, if_neg n5, if_neg n5, stf]
      by_cases hc : c = 49
      · rw [if_pos hc, if_pos hc]
        by_cases h5 : n + 1 = 5
        · rw [if_pos h5, h5]
          match r, hN, hb with
          | [], _, _ => simp [usp, uim, stf]
          | d :: q, hN, hb =>
            simp only [List.all_cons, Bool.and_eq_true] at hb
            simp only [List.length_cons] at hN
            have := ih q 0 (by omega) hb.2.2 (by omega) (by omega)
            rw [usp, if_pos rfl, uim, if_pos rfl]
            rcases (isBit_iff d).1 hb.2.1 with rfl | rfl
            · rw [if_neg (by omega), this]
              by_cases e : stf 0 (uim 0 q) = q
              · rw [if_pos e, if_pos (by rw [e])]; rfl
              · rw [if_neg e, if_neg (by intro h; simp at h; exact e h)]; rfl
            · rw [if_pos rfl, if_neg (by intro h; simp at h)]; rfl
        · rw [if_neg h5, ih r (n + 1) (by omega) hb.2 (by omega) (by omega)]
          by_cases e : stf (n + 1) (uim (n + 1) r) = r
          · rw [if_pos e, if_pos (by rw [e])]; rfl
          · rw [if_neg e, if_neg (by intro h; simp at h; exact e h)]; rfl
      · rw [if_neg hc, if_neg hc, ih r 0 (by omega) hb.2 (by omega) (by omega)]
        by_cases e : stf 0 (uim 0 r) = r
        · rw [if_pos e, if_pos (by rw [e])]; rfl
        · rw [if_neg e, if_neg (by intro h; simp at h; exact e h)]; rfl

/- Plain theory of checks: rests of bits by a divisor, as a machine that takes bit after bit. No Go and no memory in it. -/
namespace Crc

def xorL : List Bool → List Bool → List Bool
  | a :: l, b :: m => (a != b) :: xorL l m
  | [], m => m
  | l, [] => l

def zer (n : Nat) : List Bool := List.replicate n false

/-- One bit more behind what is left; pt is the divisor without its first bit. -/
def push (pt r : List Bool) (b : Bool) : List Bool :=
  match r with
  | [] => []
  | h :: t => if h then xorL pt (t ++ [b]) else t ++ [b]

def feed (pt r s : List Bool) : List Bool := s.foldl (push pt) r

/-- What is left of the bits s. -/
def rst (pt s : List Bool) : List Bool := feed pt (zer pt.length) s

theorem xorL_length : ∀ (a b : List Bool), a.length = b.length → (xorL a b).length = a.length
  | [], [], _ => rfl
  | x :: a, y :: b, h => by simp only [xorL, List.length_cons]; rw [xorL_length a b (by simpa using h)]
  | [], _ :: _, h => by simp at h
  | _ :: _, [], h => by simp at h

theorem push_length {pt r : List Bool} {b : Bool} (h : r.length = pt.length) : (push pt r b).length = pt.length := by
  cases r with
  | nil => simpa [push] using h
  | cons x t =>
    simp only [push]
    split
    · rw [xorL_length]; simp at h ⊢; omega
    · simp at h ⊢; omega

theorem feed_length {pt : List Bool} : ∀ (s r : List Bool), r.length = pt.length → (feed pt r s).length = pt.length := by
  intro s
  induction s with
  | nil => intro r h; exact h
  | cons b s ih => intro r h; exact ih _ (push_length h)

theorem feed_append (pt r s t : List Bool) : feed pt r (s ++ t) = feed pt (feed pt r s) t := by simp [feed, List.foldl_append]

theorem rst_length (pt s : List Bool) : (rst pt s).length = pt.length := feed_length s _ (by simp [zer])

theorem xorL_comm : ∀ (a b : List Bool), xorL a b = xorL b a
  | [], [] => rfl
  | [], _ :: _ => rfl
  | _ :: _, [] => rfl
  | x :: a, y :: b => by simp only [xorL]; rw [xorL_comm a b]; cases x <;> cases y <;> rfl

theorem xorL_assoc : ∀ (a b c : List Bool), a.length = b.length → b.length = c.length → xorL (xorL a b) c = xorL a (xorL b c)
  | [], [], [], _, _ => rfl
  | x :: a, y :: b, z :: c, h, k => by
    simp only [xorL]; rw [xorL_assoc a b c (by simpa using h) (by simpa using k)]; cases x <;> cases y <;> cases z <;> rfl
  | [], _ :: _, _, h, _ => by simp at h
  | _ :: _, [], _, h, _ => by simp at h
  | _, [], _ :: _, _, k => by simp at k
  | _, _ :: _, [], _, k => by simp at k

theorem xorL_zer : ∀ (a : List Bool) (n : Nat), n = a.length → xorL a (zer n) = a
  | [], n, h => by subst h; rfl
  | x :: a, n, h => by subst h; simp only [zer, List.length_cons, List.replicate_succ, xorL]; rw [show List.replicate a.length false = zer a.length from rfl, xorL_zer a _ rfl]; simp

theorem xorL_self : ∀ (a : List Bool), xorL a a = zer a.length
  | [] => rfl
  | x :: a => by simp only [xorL, zer, List.length_cons, List.replicate_succ]; rw [xorL_self a]; simp [zer]

theorem xorL_append : ∀ (a b c d : List Bool), a.length = b.length → xorL (a ++ c) (b ++ d) = xorL a b ++ xorL c d
  | [], [], c, d, _ => by simp [xorL]
  | x :: a, y :: b, c, d, h => by simp only [List.cons_append, xorL]; rw [xorL_append a b c d (by simpa using h)]
  | [], _ :: _, _, _, h => by simp at h
  | _ :: _, [], _, _, h => by simp at h

theorem xorL_cancel {a b : List Bool} (h : a.length = b.length) (e : xorL a b = zer a.length) : a = b := by
  have h1 : xorL (xorL a b) b = a := by rw [xorL_assoc _ _ _ h rfl, xorL_self, xorL_zer _ _ (by omega)]
  rw [e, xorL_comm, h, xorL_zer _ _ rfl] at h1; exact h1.symm

/-- Taking bits is additive. -/
theorem push_xor {pt r q : List Bool} {a b : Bool} (hr : r.length = pt.length) (hq : q.length = pt.length) : push pt (xorL r q) (a != b) = xorL (push pt r a) (push pt q b) := by
  cases r with
  | nil => cases q with
    | nil => rfl
    | cons y q => rw [← hr] at hq; simp at hq
  | cons x r => cases q with
    | nil => rw [← hq] at hr; simp at hr
    | cons y q =>
      have e : xorL (r ++ [a]) (q ++ [b]) = xorL r q ++ [a != b] := by rw [xorL_append _ _ _ _ (by simp at hr hq; omega)]; rfl
      have l1 : (r ++ [a]).length = pt.length := by simp at hr ⊢; omega
      have l2 : (q ++ [b]).length = pt.length := by simp at hq ⊢; omega
      simp only [xorL, push]
      cases x <;> cases y <;> simp only [bne_self_eq_false, Bool.false_bne, Bool.true_bne, Bool.not_false, if_true, Bool.false_eq_true, if_false]
      · exact e.symm
      · rw [← e, ← xorL_assoc _ _ _ (by omega) (by omega), xorL_comm pt, xorL_assoc _ _ _ (by omega) (by omega)]
      · rw [← e, xorL_assoc _ _ _ (by omega) (by omega)]
      · rw [← e, xorL_assoc pt _ _ (by omega) (by rw [xorL_length] <;> omega), ← xorL_assoc (r ++ [a]) _ _ (by omega) (by omega), xorL_comm (r ++ [a]) pt, xorL_assoc pt _ _ (by omega) (by omega), ← xorL_assoc pt pt _ rfl (by rw [xorL_length] <;> omega), xorL_self]
        rw [xorL_comm (zer _) _, xorL_zer _ _ (by rw [xorL_length] <;> omega), xorL_comm]

theorem feed_xor {pt : List Bool} : ∀ (s t r q : List Bool), s.length = t.length → r.length = pt.length → q.length = pt.length → feed pt (xorL r q) (xorL s t) = xorL (feed pt r s) (feed pt q t) := by
  intro s
  induction s with
  | nil => intro t r q h hr hq; cases t with
    | nil => rfl
    | cons _ _ => simp at h
  | cons a s ih => intro t r q h hr hq; cases t with
    | nil => simp at h
    | cons b t =>
      simp only [xorL, feed, List.foldl_cons]
      rw [push_xor hr hq]
      exact ih t _ _ (by simpa using h) (push_length hr) (push_length hq)

theorem rst_xor (pt s t : List Bool) (h : s.length = t.length) : rst pt (xorL s t) = xorL (rst pt s) (rst pt t) := by
  have e : zer pt.length = xorL (zer pt.length) (zer pt.length) := (xorL_zer _ _ (by simp [zer])).symm
  unfold rst
  conv => lhs; rw [e]
  exact feed_xor s t _ _ h (by simp [zer]) (by simp [zer])

/-- Noughts ahead change nothing. -/
theorem feed_zer {pt : List Bool} : ∀ (n : Nat), feed pt (zer pt.length) (zer n) = zer pt.length := by
  have h1 : push pt (zer pt.length) false = zer pt.length := by
    cases pt with
    | nil => rfl
    | cons _ pt => show zer pt.length ++ [false] = zer (pt.length + 1); simp [zer, List.replicate_succ']
  intro n
  induction n with
  | zero => rfl
  | succ n ih => show feed pt (push pt (zer pt.length) false) (zer n) = _; rw [h1, ih]

theorem rst_zer_append (pt : List Bool) (n : Nat) (s : List Bool) : rst pt (zer n ++ s) = rst pt s := by
  unfold rst; rw [feed_append, feed_zer]

/-- Few bits are left as they are. -/
theorem feed_short {pt : List Bool} : ∀ (s r : List Bool), r.length + s.length = pt.length → feed pt (zer s.length ++ r) s = r ++ s := by
  intro s
  induction s with
  | nil => intro r _; simp [feed, zer]
  | cons b s ih =>
    intro r h
    show feed pt (push pt (zer (s.length + 1) ++ r) b) s = _
    have : push pt (zer (s.length + 1) ++ r) b = zer s.length ++ (r ++ [b]) := by simp [push, zer, List.replicate_succ]
    rw [this, ih _ (by simp at h ⊢; omega)]; simp

theorem rst_full {pt s : List Bool} (h : s.length = pt.length) : rst pt s = s := by
  have := feed_short (pt := pt) s [] (by simpa using h)
  rw [List.append_nil, List.nil_append, h] at this; exact this

theorem rst_short {pt s : List Bool} (h : s.length ≤ pt.length) : rst pt s = zer (pt.length - s.length) ++ s := by
  rw [← rst_zer_append pt (pt.length - s.length)]
  exact rst_full (by simp [zer]; omega)

/-- The divisor itself leaves nothing. -/
theorem rst_self (pt : List Bool) : rst pt (true :: pt) = zer pt.length := by
  cases hp : pt with
  | nil => rfl
  | cons a q =>
    rw [← hp]
    have h1 : (true :: pt) = (true :: pt.dropLast) ++ [pt.getLast (by rw [hp]; simp)] := by rw [List.cons_append, List.dropLast_concat_getLast]
    have h2 : rst pt (true :: pt.dropLast) = true :: pt.dropLast := rst_full (by simp [hp])
    have h3 : rst pt (true :: pt) = push pt (rst pt (true :: pt.dropLast)) (pt.getLast (by rw [hp]; simp)) := by
      conv => lhs; rw [h1]
      unfold rst; rw [feed_append]; rfl
    rw [h3, h2]
    simp only [push, if_true]
    rw [List.dropLast_concat_getLast, xorL_self]

theorem rst_snoc (pt s : List Bool) (b : Bool) : rst pt (s ++ [b]) = push pt (rst pt s) b := by unfold rst; rw [feed_append]; rfl

/-- Where the divisor's last bit is 1 a nought more behind leaves nothing only where nothing was left. -/
theorem push_zero {pt r : List Bool} (hl : pt.getLast? = some true) (h : r.length = pt.length) (e : push pt r false = zer pt.length) : r = zer pt.length := by
  cases r with
  | nil => rw [← h]; rfl
  | cons x t =>
    simp only [push] at e
    split at e
    · have e1 : pt = t ++ [false] := xorL_cancel (by simp at h ⊢; omega) e
      rw [e1] at hl; simp at hl
    · rename_i hx
      have hx' : x = false := by simpa using hx
      subst hx'
      have h' : pt.length = t.length + 1 := by simpa using h.symm
      rw [h'] at e ⊢
      have : t = zer t.length := by
        rw [zer, List.replicate_succ', ← zer] at e
        exact (List.append_inj' e rfl).1
      conv => lhs; rw [this]
      rfl

theorem push_inj {pt r q : List Bool} {b : Bool} (hl : pt.getLast? = some true) (hr : r.length = pt.length) (hq : q.length = pt.length) (e : push pt r b = push pt q b) : r = q := by
  have h1 : push pt (xorL r q) (b != b) = xorL (push pt r b) (push pt q b) := push_xor hr hq
  rw [e, xorL_self, push_length hq, bne_self_eq_false] at h1
  have := push_zero hl (by rw [xorL_length] <;> omega) h1
  exact xorL_cancel (by omega) (by rw [this, hr])

theorem rst_append_zer {pt : List Bool} (hl : pt.getLast? = some true) : ∀ (n : Nat) (s : List Bool), rst pt (s ++ zer n) = zer pt.length → rst pt s = zer pt.length := by
  intro n
  induction n with
  | zero => intro s h; simpa [zer] using h
  | succ n ih =>
    intro s h
    rw [zer, List.replicate_succ', ← zer, ← List.append_assoc, rst_snoc] at h
    exact ih s (push_zero hl (rst_length _ _) h)

theorem rst_zer_behind (pt : List Bool) (n : Nat) (s : List Bool) (h : rst pt s = zer pt.length) : rst pt (s ++ zer n) = zer pt.length := by
  unfold rst at *; rw [feed_append, h, feed_zer]

theorem rst_between {pt : List Bool} (hl : pt.getLast? = some true) (a b : Nat) (s : List Bool) : rst pt (zer a ++ s ++ zer b) = zer pt.length ↔ rst pt s = zer pt.length := by
  rw [List.append_assoc, rst_zer_append]
  exact ⟨rst_append_zer hl b s, rst_zer_behind pt b s⟩

theorem one_bit {pt : List Bool} (hl : pt.getLast? = some true) (a b : Nat) : rst pt (zer a ++ [true] ++ zer b) ≠ zer pt.length := by
  rw [Ne, rst_between hl]
  have h0 : 1 ≤ pt.length := by cases pt with | nil => simp at hl | cons _ _ => simp
  rw [rst_short (by simpa using h0)]
  intro e
  have : true ∈ zer pt.length := by rw [← e]; simp
  simp [zer] at this

theorem two_bits {pt : List Bool} (hl : pt.getLast? = some true) (h2 : 2 ≤ pt.length) (a b : Nat) : rst pt (zer a ++ [true, true] ++ zer b) ≠ zer pt.length := by
  rw [Ne, rst_between hl, rst_short (by simpa using h2)]
  intro e
  have : true ∈ zer pt.length := by rw [← e]; simp
  simp [zer] at this

/-! Cycles. -/
def apart (d : Nat) : List Bool := true :: (zer (d - 1) ++ [true])
def mono (pt : List Bool) (j : Nat) : List Bool := rst pt (true :: zer j)

theorem mono_succ (pt : List Bool) (j : Nat) : mono pt (j + 1) = push pt (mono pt j) false := by
  unfold mono; rw [← rst_snoc]; simp [zer, List.replicate_succ']

theorem mono_length (pt : List Bool) (j : Nat) : (mono pt j).length = pt.length := rst_length _ _

theorem apart_iff {pt : List Bool} {d : Nat} (hd : 1 ≤ d) : rst pt (apart d) = zer pt.length ↔ mono pt d = mono pt 0 := by
  obtain ⟨j, rfl⟩ : ∃ j, d = j + 1 := ⟨d - 1, by omega⟩
  have e : apart (j + 1) = xorL (true :: zer (j + 1)) (zer (j + 1) ++ [true]) := by
    simp only [apart, Nat.add_sub_cancel]
    have : zer (j + 1) = zer j ++ [false] := by simp [zer, List.replicate_succ']
    conv => rhs; arg 1; rw [this]
    have e2 : zer (j + 1) ++ [true] = false :: (zer j ++ [true]) := by simp [zer, List.replicate_succ]
    rw [e2]
    simp only [xorL]
    rw [xorL_append _ _ _ _ rfl, xorL_self]
    simp [xorL, zer]
  have e1 : mono pt 0 = rst pt (zer (j + 1) ++ [true]) := by rw [rst_zer_append]; rfl
  rw [e, rst_xor _ _ _ (by simp [zer]), ← e1]
  constructor
  · intro h; exact xorL_cancel (by rw [mono_length, mono_length]) (by rw [mono_length]; exact h)
  · intro h; rw [show rst pt (true :: zer (j + 1)) = mono pt (j + 1) from rfl, h, xorL_self, mono_length]

theorem mono_back {pt : List Bool} (hl : pt.getLast? = some true) : ∀ (i j : Nat), mono pt (i + j) = mono pt i → mono pt j = mono pt 0 := by
  intro i
  induction i with
  | zero => intro j h; simpa using h
  | succ i ih =>
    intro j h
    rw [show i + 1 + j = (i + j) + 1 by omega, mono_succ, mono_succ] at h
    exact ih j (push_inj hl (mono_length _ _) (mono_length _ _) h)

theorem mono_on {pt : List Bool} {c : Nat} (hc : mono pt c = mono pt 0) : ∀ j, mono pt (j + c) = mono pt j := by
  intro j
  induction j with
  | zero => simpa using hc
  | succ j ih => rw [show j + 1 + c = (j + c) + 1 by omega, mono_succ, mono_succ, ih]

theorem mono_times {pt : List Bool} {c : Nat} (hc : mono pt c = mono pt 0) : ∀ q j, mono pt (j + q * c) = mono pt j := by
  intro q
  induction q with
  | zero => intro j; simp
  | succ q ih => intro j; rw [Nat.succ_mul, ← Nat.add_assoc, mono_on hc, ih]

/-- Of the least cycle c: the others are its multiples. -/
theorem cycle_iff {pt : List Bool} {c : Nat} (h1 : 1 ≤ c) (hc : mono pt c = mono pt 0) (hm : ∀ j, 1 ≤ j → j < c → mono pt j ≠ mono pt 0) (d : Nat) : mono pt d = mono pt 0 ↔ d % c = 0 := by
  have e : mono pt d = mono pt (d % c) := by
    conv => lhs; rw [← Nat.mod_add_div d c, Nat.mul_comm]
    exact mono_times hc _ _
  rw [e]
  constructor
  · intro h
    by_cases hz : d % c = 0
    · exact hz
    · exact absurd h (hm _ (by omega) (Nat.mod_lt _ (by omega)))
  · intro h; rw [h]

def all : Nat → List (List Bool)
  | 0 => [[]]
  | n + 1 => (all n).map (false :: ·) ++ (all n).map (true :: ·)
theorem all_length : ∀ n, (all n).length = 2 ^ n
  | 0 => rfl
  | n + 1 => by simp [all, all_length n]; omega
theorem mem_all : ∀ (l : List Bool), l ∈ all l.length
  | [] => by simp [all]
  | b :: l => by have := mem_all l; cases b <;> simp [all, this]

theorem sub_len {α : Type} [DecidableEq α] : ∀ (l m : List α), l.Nodup → (∀ x ∈ l, x ∈ m) → l.length ≤ m.length := by
  intro l
  induction l with
  | nil => intro m _ _; simp
  | cons a l ih =>
    intro m hn hm
    rw [List.nodup_cons] at hn
    have ha := hm a (by simp)
    have := ih (m.erase a) hn.2 (fun x hx => (List.mem_erase_of_ne (fun (e : x = a) => hn.1 (by rw [← e]; exact hx))).2 (hm x (by simp [hx])))
    rw [List.length_erase_of_mem ha] at this
    have : 0 < m.length := List.length_pos_of_mem ha
    simp; omega

/-- There is a cycle. -/
theorem cycle_there {pt : List Bool} (hl : pt.getLast? = some true) : ∃ c, 1 ≤ c ∧ c ≤ 2 ^ pt.length ∧ mono pt c = mono pt 0 := by
  by_cases h : ∃ c, 1 ≤ c ∧ c ≤ 2 ^ pt.length ∧ mono pt c = mono pt 0
  · exact h
  · exfalso
    have hd : ((List.range (2 ^ pt.length + 1)).map (mono pt)).Nodup := by
      rw [List.nodup_iff_pairwise_ne, List.pairwise_map]
      have hlt : (List.range (2 ^ pt.length + 1)).Pairwise (· < ·) := List.pairwise_lt_range
      refine List.Pairwise.imp_of_mem ?_ hlt
      intro a b ha hb hab e
      rw [List.mem_range] at ha hb
      refine h ⟨b - a, by omega, by omega, mono_back hl a (b - a) ?_⟩
      rw [show a + (b - a) = b by omega]; exact e.symm
    have := sub_len _ (all pt.length) hd (by
      intro x hx
      obtain ⟨j, _, rfl⟩ := List.mem_map.1 hx
      have := mem_all (mono pt j)
      rwa [mono_length] at this)
    rw [all_length, List.length_map, List.length_range] at this
    omega

end Crc

/-! Rests as they are reckoned in place: the machine of the plain theory. -/
def rem (pt : List Bool) : Nat → List Bool → List Bool
  | 0, l => l
  | _ + 1, [] => []
  | n + 1, h :: t => rem pt n (if h then Crc.xorL pt t else t)
theorem xorL_long (a b c : List Bool) (h : a.length = b.length) : Crc.xorL a (b ++ c) = Crc.xorL a b ++ c := by
  have := Crc.xorL_append a b [] c h
  rw [List.append_nil] at this
  rw [this]
  cases c <;> rfl
theorem rem_feed (pt : List Bool) : ∀ (s r : List Bool), r.length = pt.length → 1 ≤ pt.length → rem pt s.length (r ++ s) = Crc.feed pt r s := by
  intro s
  induction s with
  | nil =>
    intro r hr h1
    rw [List.append_nil]; rfl
  | cons b s ih =>
    intro r hr h1
    cases r with
    | nil => simp only [List.length_nil] at hr; omega
    | cons h t =>
      simp only [List.length_cons] at hr
      rw [List.cons_append, List.length_cons, rem]
      have hp : (Crc.push pt (h :: t) b).length = pt.length := Crc.push_length (by simp; omega)
      rw [show Crc.feed pt (h :: t) (b :: s) = Crc.feed pt (Crc.push pt (h :: t) b) s by rfl, ← ih _ hp h1]
      congr 1
      have e : t ++ b :: s = (t ++ [b]) ++ s := by simp
      rw [e, xorL_long pt (t ++ [b]) s (by simp; omega)]
      cases h <;> simp [Crc.push]
theorem rem_rst (pt s : List Bool) (h1 : 1 ≤ pt.length) (hs : pt.length ≤ s.length) : rem pt (s.length - pt.length) s = Crc.rst pt s := by
  have e : s = s.take pt.length ++ s.drop pt.length := (List.take_append_drop _ _).symm
  have hl : (s.take pt.length).length = pt.length := by rw [List.length_take]; omega
  rw [show Crc.rst pt s = Crc.feed pt (s.take pt.length) (s.drop pt.length) by
    conv => lhs; rw [e]
    unfold Crc.rst
    rw [Crc.feed_append, show Crc.feed pt (Crc.zer pt.length) (s.take pt.length) = Crc.rst pt (s.take pt.length) from rfl, Crc.rst_full hl]]
  have := rem_feed pt (s.drop pt.length) (s.take pt.length) hl h1
  rw [List.length_drop] at this
  conv => lhs; rw [e]
  rw [show (s.take pt.length ++ s.drop pt.length).length = s.length by rw [← e]]
  exact this

/-! Bits as yes and no. -/
def q49 (x : Int) : Bool := x == 49
def ib (b : Bool) : Int := if b then 49 else 48
def bo (s : ByteArray) : List Bool := (bl s).map q49
def ob (l : List Bool) : ByteArray := tb (l.map ib)
theorem bo_len (s : ByteArray) : (bo s).length = s.size := by unfold bo; rw [List.length_map, bl_len]
theorem ob_len (l : List Bool) : (ob l).size = l.length := by unfold ob; rw [tb_len, List.length_map]
theorem ib_bit (l : List Bool) : (l.map ib).all isBit = true := by
  rw [List.all_map, List.all_eq_true]
  intro b _
  cases b <;> rfl
theorem bits_bytes (l : List Bool) : ∀ x ∈ l.map ib, 0 ≤ x ∧ x ≤ 255 := by
  intro x hx
  have := (isBit_iff x).1 (List.all_eq_true.1 (ib_bit l) x hx)
  omega
theorem bl_ob (l : List Bool) : bl (ob l) = l.map ib := bl_tb _ (bits_bytes l)
theorem bo_ob (l : List Bool) : bo (ob l) = l := by
  unfold bo
  rw [bl_ob, List.map_map]
  conv => rhs; rw [← List.map_id l]
  refine List.map_congr_left fun b _ => ?_
  cases b <;> rfl
theorem okBits_ob (l : List Bool) : okBits (ob l) = true := by unfold okBits; rw [bl_ob]; exact ib_bit l
theorem ob_bo (s : ByteArray) (h : okBits s = true) : ob (bo s) = s := by
  unfold ob bo
  rw [List.map_map]
  have : (bl s).map (ib ∘ q49) = bl s := by
    conv => rhs; rw [← List.map_id (bl s)]
    refine List.map_congr_left fun x hx => ?_
    rcases (isBit_iff x).1 (List.all_eq_true.1 h x hx) with rfl | rfl <;> rfl
  rw [this, tb_bl]
theorem ob_append (a b : List Bool) : ob (a ++ b) = ob a ++ ob b := by unfold ob; rw [List.map_append, tb_append]
theorem bo_append (a b : ByteArray) : bo (a ++ b) = bo a ++ bo b := by unfold bo; rw [bl_append, List.map_append]
theorem bo_extract (s : ByteArray) (i j : Nat) : bo (s.extract i j) = ((bo s).drop i).take (j - i) := by unfold bo; rw [bl_extract, List.map_take, List.map_drop]
theorem okBits_append (a b : ByteArray) : okBits (a ++ b) = (okBits a && okBits b) := by unfold okBits; rw [bl_append, List.all_append]
theorem okBits_extract (s : ByteArray) (h : okBits s = true) (i j : Nat) : okBits (s.extract i j) = true := by
  unfold okBits at h ⊢
  rw [bl_extract, List.all_eq_true]
  rw [List.all_eq_true] at h
  exact fun x hx => h x (List.mem_of_mem_drop (List.mem_of_mem_take hx))
theorem bo_inj {a b : ByteArray} (ha : okBits a = true) (hb : okBits b = true) (h : bo a = bo b) : a = b := by rw [← ob_bo a ha, ← ob_bo b hb, h]
theorem bit_at (s : ByteArray) (h : okBits s = true) (j : Nat) (hj : j < s.size) : bt s (j : Int) = ib ((bo s)[j]'(by rw [bo_len]; exact hj)) := by
  rw [bt_nat s j hj]
  simp only [bo, List.getElem_map]
  rcases (isBit_iff _).1 (List.all_eq_true.1 h _ (List.getElem_mem (l := bl s) (n := j) (by rw [bl_len]; exact hj))) with e | e <;> rw [e] <;> rfl
theorem ib_one (b : Bool) : (ib b = 49) = (b = true) := by cases b <;> simp [ib]
theorem bt0_iff (s : ByteArray) (h : okBits s = true) (j : Nat) (hj : j < s.size) : (bt s (j : Int) = 49) ↔ (bo s)[j]'(by rw [bo_len]; exact hj) = true := by
  rw [bit_at s h j hj, ib_one]
theorem e48o : (⟨#[48]⟩ : ByteArray) = ob [false] := rfl
theorem e49o : (⟨#[49]⟩ : ByteArray) = ob [true] := rfl
theorem nil_toList : (tb []).toList = ([] : List UInt8) := (toList_nil_iff _).2 rfl

/-! Divisors. -/
/-- A divisor. -/
def okPoly (p : ByteArray) : Bool := okBits p && (decide (2 ≤ p.size) && decide (p.size ≤ 9)) && ((bt p 0 == 49) && (bt p ((p.size : Int) - 1) == 49))
theorem okPoly_bits {p : ByteArray} (h : okPoly p = true) : okBits p = true := by unfold okPoly at h; simp at h; exact h.1.1
theorem okPoly_size {p : ByteArray} (h : okPoly p = true) : 2 ≤ p.size ∧ p.size ≤ 9 := by unfold okPoly at h; simp at h; exact h.1.2
def pt (p : ByteArray) : List Bool := (bo p).tail
theorem pt_len (p : ByteArray) : (pt p).length = p.size - 1 := by unfold pt; rw [List.length_tail, bo_len]
theorem pt_cons {p : ByteArray} (h : okPoly p = true) : bo p = true :: pt p := by
  have hs := okPoly_size h
  have hb := okPoly_bits h
  have h0 : bt p 0 = 49 := by unfold okPoly at h; simp at h; exact h.2.1
  have := (bt0_iff p hb 0 (by omega)).1 h0
  unfold pt
  have hl := bo_len p
  cases e : bo p with
  | nil => rw [e] at hl; simp at hl; omega
  | cons a l =>
    simp only [e, List.getElem_cons_zero] at this
    rw [this]; rfl
theorem pt_last {p : ByteArray} (h : okPoly p = true) : (pt p).getLast? = some true := by
  have hs := okPoly_size h
  have hb := okPoly_bits h
  have h0 : bt p ((p.size : Int) - 1) = 49 := by unfold okPoly at h; simp at h; exact h.2.2
  rw [show ((p.size : Int) - 1) = ((p.size - 1 : Nat) : Int) by omega] at h0
  have h1 := (bt0_iff p hb (p.size - 1) (by omega)).1 h0
  have hl := pt_len p
  rw [List.getLast?_eq_getElem?, hl]
  have e := pt_cons h
  have h2 : (bo p)[p.size - 1]? = some true := by rw [List.getElem?_eq_getElem (by rw [bo_len]; omega), h1]
  rw [e, show p.size - 1 = (p.size - 1 - 1) + 1 by omega, List.getElem?_cons_succ] at h2
  exact h2
theorem specPoly_some (p : ByteArray) (hp : p.size ≤ 1000000000) (k : Nat) (hk : p.size < k) : spec_validPoly.f k p = some (okPoly p) := by
  unfold spec_validPoly.f okPoly
  rw [validBits_some p hp k hk, bsome]
  unfold spec_inRange.f
  cases hb : okBits p with
  | false => rw [if_neg (by simp)]; simp
  | true =>
    simp only [Bool.true_and]
    by_cases h4 : p.size ≤ 40
    · rw [if_pos (by simpa using h4)]
      by_cases h2 : (2 : Int) ≤ (p.size : Int)
      · by_cases h9 : p.size ≤ 9
        · simp only [if_pos h2]
          rw [bsome, if_pos (by simp; omega), if_pos (show (0 : Int) < (p.size : Int) by omega), w64 (n := (p.size : Int) - 1) (by omega) (by omega)]
          have e2 : 2 ≤ p.size := by omega
          by_cases h0 : bt p 0 = 49
          · rw [if_pos h0, if_pos (show (0 : Int) ≤ (p.size : Int) - 1 by omega), if_pos (show (p.size : Int) - 1 < (p.size : Int) by omega)]; simp [h0, e2, h9]
          · rw [if_neg h0]; simp [h0]
        · simp only [if_pos h2]
          rw [bsome, if_neg (by simp; omega)]
          simp [h9]
      · simp only [if_neg h2]
        rw [bsome, if_neg (by simp)]
        have e2 : ¬ 2 ≤ p.size := by omega
        simp [e2]
    · rw [if_neg (by simpa using h4)]
      have h9 : ¬ p.size ≤ 9 := by omega
      simp [h9]
theorem implPoly_some (p : ByteArray) (hp : p.size ≤ 1000000000) : impl_ValidPoly.f p = some (okPoly p) := by
  unfold impl_ValidPoly.f okPoly
  by_cases h2 : (p.size : Int) ≥ 2
  · rw [if_pos h2]
    have e2 : 2 ≤ p.size := by omega
    by_cases h9 : (p.size : Int) ≤ 9
    · rw [if_pos h9, bitsAlone_some p hp, bsome]
      have e9 : p.size ≤ 9 := by omega
      cases hb : okBits p with
      | false => rw [if_neg (by simp)]; simp
      | true =>
        rw [if_pos rfl, if_pos (show (0 : Int) < (p.size : Int) by omega), w64 (n := (p.size : Int) - 1) (by omega) (by omega)]
        by_cases h0 : bt p 0 = 49
        · rw [if_pos h0, if_pos (show (0 : Int) ≤ (p.size : Int) - 1 by omega), if_pos (show (p.size : Int) - 1 < (p.size : Int) by omega)]; simp [h0, e2, e9]
        · rw [if_neg h0]; simp [h0]
    · rw [if_neg h9]
      have e9 : ¬ p.size ≤ 9 := by omega
      simp [e9]
  · rw [if_neg h2]
    have e2 : ¬ 2 ≤ p.size := by omega
    simp [e2]

/-! Where two texts differ. -/
theorem differ_l0 (a b : ByteArray) (ha : okBits a = true) (hb : okBits b = true) (hs : a.size = b.size) (hm : a.size ≤ 1000000) : ∀ (d j k : Nat) (acc : ByteArray), a.size - j = d → j ≤ a.size → acc.size ≤ j → d < k →
    spec_differ.l0 k a b acc (j : Int) = some (acc ++ ob (Crc.xorL ((bo a).drop j) ((bo b).drop j))) := by
  intro d
  induction d with
  | zero =>
    intro j k acc hd hj hc hk
    obtain ⟨k, rfl⟩ : ∃ m, k = m + 1 := ⟨k - 1, by omega⟩
    simp only [spec_differ.l0]
    rw [if_neg (by omega), List.drop_eq_nil_of_le (by rw [bo_len]; omega), List.drop_eq_nil_of_le (by rw [bo_len]; omega)]
    show some acc = some (acc ++ tb [])
    rw [app_nil]
  | succ d ih =>
    intro j k acc hd hj hc hk
    obtain ⟨k, rfl⟩ : ∃ m, k = m + 1 := ⟨k - 1, by omega⟩
    simp only [spec_differ.l0]
    have hja : j < (bo a).length := by rw [bo_len]; omega
    have hjb : j < (bo b).length := by rw [bo_len]; omega
    rw [if_pos (show (j : Int) < (a.size : Int) by omega), if_pos (show (0 : Int) ≤ (j : Int) by omega), if_pos (show (j : Int) < (b.size : Int) by omega), w64s (by omega),
      bit_at a ha j (by omega), bit_at b hb j (by omega), List.drop_eq_getElem_cons hja, List.drop_eq_getElem_cons hjb, Crc.xorL]
    generalize (bo a)[j] = x
    generalize (bo b)[j] = y
    have e0 : (⟨#[48]⟩ : ByteArray) = ob [false] := rfl
    have e1 : (⟨#[49]⟩ : ByteArray) = ob [true] := rfl
    have key : ∀ z : Bool, spec_differ.l0 k a b (acc ++ ob [z]) ((j + 1 : Nat) : Int) = some (acc ++ ob (z :: Crc.xorL ((bo a).drop (j + 1)) ((bo b).drop (j + 1)))) := by
      intro z
      rw [ih (j + 1) k (acc ++ ob [z]) (by omega) (by omega) (by rw [ByteArray.size_append, ob_len]; simp; omega) (by omega), app_assoc, ← ob_append]
      rfl
    rw [if_pos (show acc.size + 1 ≤ 9223372036854775807 by omega), e0, e1]
    cases x <;> cases y
    · rw [if_pos rfl]; exact key false
    · rw [if_neg (by decide), if_pos (show acc.size + 1 ≤ 9223372036854775807 by omega)]; exact key true
    · rw [if_neg (by decide), if_pos (show acc.size + 1 ≤ 9223372036854775807 by omega)]; exact key true
    · rw [if_pos rfl]; exact key false
theorem differ_some (a b : ByteArray) (ha : okBits a = true) (hb : okBits b = true) (hs : a.size = b.size) (hm : a.size ≤ 1000000) (k : Nat) (hk : a.size < k) :
    spec_differ.f k a b = some (ob (Crc.xorL (bo a) (bo b))) := by
  unfold spec_differ.f
  have := differ_l0 a b ha hb hs hm a.size 0 k (⟨#[]⟩ : ByteArray) (by omega) (by omega) (by simp [ByteArray.size]) hk
  rw [show ((0 : Nat) : Int) = 0 by rfl, List.drop_zero, List.drop_zero] at this
  rw [this]
  exact congrArg some (nil_app _)

/-! Rests: both programs. -/
def restB (p s : ByteArray) : ByteArray := ob (Crc.rst (pt p) (bo s))
theorem xor_bit (c z : Int) (hc : c = 48 ∨ c = 49) (hz : z = 48 ∨ z = 49) : Go.bits .xor .u8 c ((z - 48) % 256) = ib (q49 c != q49 z) := by
  rcases hc with rfl | rfl <;> rcases hz with rfl | rfl <;> rfl
theorem xorL_nil (m : List Bool) : Crc.xorL [] m = m := by cases m <;> rfl
theorem xorL_get : ∀ (a b : List Bool) (j : Nat), a.length ≤ b.length → (Crc.xorL a b)[j]? = if j < a.length then some (a.getD j false != b.getD j false) else b[j]?
  | [], b, j, _ => by rw [xorL_nil]; simp
  | x :: a, [], j, h => by simp at h
  | x :: a, y :: b, 0, _ => by simp [Crc.xorL]
  | x :: a, y :: b, j + 1, h => by
    simp only [Crc.xorL, List.getElem?_cons_succ, List.length_cons, Nat.add_lt_add_iff_right, List.getD_cons_succ]
    exact xorL_get a b j (by simpa using h)
theorem all_getD {l : List Int} (h : l.all isBit = true) (j : Nat) (hj : j < l.length) : l.getD j 0 = 48 ∨ l.getD j 0 = 49 := by
  rw [List.getD_eq_getElem?_getD, List.getElem?_eq_getElem hj]
  exact (isBit_iff _).1 (List.all_eq_true.1 h _ (List.getElem_mem hj))
theorem set_bits {l : List Int} (h : l.all isBit = true) (j : Nat) (b : Bool) : (l.set j (ib b)).all isBit = true := by
  rw [List.all_eq_true] at h ⊢
  intro x hx
  rcases List.mem_or_eq_of_mem_set hx with hx | rfl
  · exact h x hx
  · cases b <;> rfl
theorem bits_bt (p : ByteArray) (hp : okBits p = true) (k : Nat) (hk : k < p.size) : bt p (k : Int) = 48 ∨ bt p (k : Int) = 49 := by
  rw [← isBit_iff, bt_nat p k hk]
  exact List.all_eq_true.1 hp _ (List.getElem_mem _)
theorem xorAt_eq (l : List Int) (p : ByteArray) (hp : okBits p = true) (hl : l.all isBit = true) (i k : Nat) (hk : k < p.size) (hi : i + k < l.length) :
    xorAt l p i k = l.set (i + k) (ib (q49 (l.getD (i + k) 0) != q49 (bt p (k : Int)))) := by
  unfold xorAt
  rw [xor_bit _ _ (all_getD hl _ hi) (bits_bt p hp k hk)]
theorem rin_get (p : ByteArray) (hp : okBits p = true) (i : Nat) : ∀ (d k : Nat) (l : List Int), k + d = p.size → i + p.size ≤ l.length → l.all isBit = true →
    (rin p i d k l).all isBit = true ∧ (rin p i d k l).length = l.length ∧
      ∀ j, (rin p i d k l)[j]? = if i + k ≤ j ∧ j < i + p.size then some (ib (q49 (l.getD j 0) != q49 (bt p ((j - i : Nat) : Int)))) else l[j]? := by
  intro d
  induction d with
  | zero =>
    intro k l hk hi hl
    refine ⟨hl, rfl, fun j => ?_⟩
    rw [if_neg (by omega)]
    rfl
  | succ d ih =>
    intro k l hk hi hl
    have e := xorAt_eq l p hp hl i k (by omega) (by omega)
    obtain ⟨h1, h2, h3⟩ := ih (k + 1) (xorAt l p i k) (by omega) (by rw [xorAt_len]; exact hi) (by rw [e]; exact set_bits hl _ _)
    rw [rin]
    refine ⟨h1, by rw [h2, xorAt_len], fun j => ?_⟩
    rw [h3 j, e]
    by_cases hj : j = i + k
    · subst hj
      rw [if_neg (by omega), if_pos (by omega), List.getElem?_set_self (by omega), show i + k - i = k by omega]
    · generalize ib (q49 (l.getD (i + k) 0) != q49 (bt p (k : Int))) = x
      have hg : (l.set (i + k) x)[j]? = l[j]? := List.getElem?_set_ne (by omega)
      have hd : (l.set (i + k) x).getD j 0 = l.getD j 0 := by rw [List.getD_eq_getElem?_getD, hg, ← List.getD_eq_getElem?_getD]
      rw [hg, hd]
      by_cases h : i + k ≤ j ∧ j < i + p.size
      · rw [if_pos h, if_pos (by omega)]
      · rw [if_neg h, if_neg (by omega)]
theorem rin_xor (p : ByteArray) (hp : okBits p = true) (i : Nat) (l : List Int) (hi : i + p.size ≤ l.length) (hl : l.all isBit = true) :
    ((rin p i p.size 0 l).drop i).map q49 = Crc.xorL (bo p) ((l.drop i).map q49) := by
  obtain ⟨_, h2, h3⟩ := rin_get p hp i p.size 0 l (by omega) hi hl
  apply List.ext_getElem?
  intro j
  rw [xorL_get _ _ _ (by rw [bo_len, List.length_map, List.length_drop]; omega), List.getElem?_map, List.getElem?_drop, h3, bo_len]
  by_cases hj : j < p.size
  · rw [if_pos (by omega), if_pos hj, show i + j - i = j by omega]
    have e1 : (bo p).getD j false = q49 (bt p (j : Int)) := by
      rw [List.getD_eq_getElem?_getD, List.getElem?_eq_getElem (by rw [bo_len]; exact hj), bt_nat p j hj]
      simp [bo]
    have e2 : ((l.drop i).map q49).getD j false = q49 (l.getD (i + j) 0) := by
      rw [List.getD_eq_getElem?_getD, List.getElem?_map, List.getElem?_drop, List.getD_eq_getElem?_getD, List.getElem?_eq_getElem (by omega)]
      rfl
    rw [e1, e2]
    simp only [Option.map_some]
    congr 1
    cases q49 (l.getD (i + j) 0) <;> cases q49 (bt p (j : Int)) <;> rfl
  · rw [if_neg (by omega), if_neg hj, List.getElem?_map, List.getElem?_drop]
theorem tail_map_drop (l : List Int) (i : Nat) : (l.drop (i + 1)).map q49 = ((l.drop i).map q49).tail := by
  rw [← List.tail_drop, List.map_tail]
theorem rout_spec (p : ByteArray) (hp : okPoly p = true) : ∀ (d i : Nat) (l : List Int), i + d + p.size = l.length + 1 → l.all isBit = true →
    (rout p d i l).all isBit = true ∧ ((rout p d i l).drop (i + d)).map q49 = rem (pt p) d ((l.drop i).map q49) := by
  have hs := okPoly_size hp
  intro d
  induction d with
  | zero => intro i l hi hl; exact ⟨hl, rfl⟩
  | succ d ih =>
    intro i l hi hl
    have hil : i < l.length := by omega
    rw [rout]
    have e : (l.drop i).map q49 = q49 (l.getD i 0) :: ((l.drop (i + 1)).map q49) := by
      rw [List.drop_eq_getElem_cons hil, List.map_cons, List.getD_eq_getElem?_getD, List.getElem?_eq_getElem hil]; rfl
    rcases all_getD hl i hil with h0 | h0
    · rw [if_pos h0]
      obtain ⟨g1, g2⟩ := ih (i + 1) l (by omega) hl
      refine ⟨g1, ?_⟩
      rw [show i + (d + 1) = i + 1 + d by omega, g2, e, rem, h0]
      rfl
    · rw [if_neg (by omega)]
      obtain ⟨r1, r2, _⟩ := rin_get p (okPoly_bits hp) i p.size 0 l (by omega) (by omega) hl
      obtain ⟨g1, g2⟩ := ih (i + 1) (rin p i p.size 0 l) (by omega) r1
      refine ⟨g1, ?_⟩
      rw [show i + (d + 1) = i + 1 + d by omega, g2, tail_map_drop, rin_xor p (okPoly_bits hp) i l (by omega) hl, pt_cons hp, e, rem, h0]
      rfl
theorem bits_ob (l : List Int) (h : l.all isBit = true) : tb l = ob (l.map q49) := by
  unfold ob
  rw [List.map_map]
  congr 1
  conv => lhs; rw [← List.map_id l]
  refine List.map_congr_left fun x hx => ?_
  rcases (isBit_iff x).1 (List.all_eq_true.1 h x hx) with rfl | rfl <;> rfl
theorem implRest_some (p s : ByteArray) (hp : okPoly p = true) (hb : okBits s = true) (h1 : p.size ≤ s.size + 1) (hs : s.size ≤ 1000000000) : impl_rest.f p s = some (restB p s) := by
  have hz := okPoly_size hp
  unfold impl_rest.f
  rw [if_pos ⟨hz.1, h1, hs⟩]
  congr 1
  show tb ((rout p (s.size + 1 - p.size) 0 (bl s)).drop (s.size + 1 - p.size)) = restB p s
  obtain ⟨g1, g2⟩ := rout_spec p hp (s.size + 1 - p.size) 0 (bl s) (by rw [bl_len]; omega) hb
  have g3 : ((rout p (s.size + 1 - p.size) 0 (bl s)).drop (s.size + 1 - p.size)).all isBit = true := by
    rw [List.all_eq_true] at g1 ⊢
    exact fun x hx => g1 x (List.mem_of_mem_drop hx)
  rw [bits_ob _ g3]
  rw [Nat.zero_add, List.drop_zero] at g2
  rw [g2]
  unfold restB
  have := rem_rst (pt p) (bo s) (by rw [pt_len]; omega) (by rw [pt_len, bo_len]; omega)
  rw [bo_len, pt_len, show s.size - (p.size - 1) = s.size + 1 - p.size by omega] at this
  rw [← this]
  rfl
theorem remain_l0 (p : ByteArray) (hp : okPoly p = true) : ∀ (d i k : Nat) (x : ByteArray), i + d + p.size = x.size + 1 → okBits x = true → x.size ≤ 10000000 → d + 20 < k →
    spec_remainder.l0 k p x ((p.size : Int) - 1) (i : Int) = some (ob (rem (pt p) d ((bo x).drop i))) := by
  have hs := okPoly_size hp
  intro d
  induction d with
  | zero =>
    intro i k x hi hb hx hk
    obtain ⟨k, rfl⟩ : ∃ m, k = m + 1 := ⟨k - 1, by omega⟩
    simp only [spec_remainder.l0]
    have e : mx (wrap64 ((x.size : Int) - ((p.size : Int) - 1))) 0 = (i : Int) := by
      rw [w64 (by omega) (by omega)]
      unfold mx
      split <;> omega
    rw [if_neg (show ¬ wrap64 ((i : Int) + ((p.size : Int) - 1)) < (x.size : Int) by rw [w64 (by omega) (by omega)]; omega), e, if_pos (show (0 : Int) ≤ (i : Int) by omega), if_pos (show (i : Int) ≤ (x.size : Int) by omega), Int.toNat_natCast]
    congr 1
    refine bo_inj (okBits_extract x hb _ _) (okBits_ob _) ?_
    rw [bo_ob, bo_extract, rem, List.take_of_length_le (by rw [List.length_drop, bo_len]; omega)]
  | succ d ih =>
    intro i k x hi hb hx hk
    obtain ⟨k, rfl⟩ : ∃ m, k = m + 1 := ⟨k - 1, by omega⟩
    simp only [spec_remainder.l0]
    have hix : i < (bo x).length := by rw [bo_len]; omega
    have e1 : wrap64 ((i : Int) + ((p.size : Int) - 1)) = ((i + (p.size - 1) : Nat) : Int) := by rw [w64 (by omega) (by omega)]; omega
    have e2 : wrap64 (((i + (p.size - 1) : Nat) : Int) + 1) = ((i + p.size : Nat) : Int) := by rw [w64 (by omega) (by omega)]; omega
    rw [e1, e2, if_pos (show ((i + (p.size - 1) : Nat) : Int) < (x.size : Int) by omega), if_pos (show (0 : Int) ≤ (i : Int) by omega), if_pos (show (i : Int) < (x.size : Int) by omega), w64s (by omega),
      bit_at x hb i (by omega), List.drop_eq_getElem_cons hix, rem]
    cases hh : (bo x)[i] with
    | false =>
      rw [if_neg (by decide), ih (i + 1) k x (by omega) hb hx (by omega)]
      rfl
    | true =>
      rw [if_pos (show ib true = 49 from rfl), if_pos (show (i : Int) ≤ (x.size : Int) by omega), if_pos (show (i : Int) ≤ ((i + p.size : Nat) : Int) by omega), if_pos (show ((i + p.size : Nat) : Int) ≤ (x.size : Int) by omega), Int.toNat_natCast, Int.toNat_natCast]
      have hb1 := okBits_extract x hb i (i + p.size)
      have hsz : (x.extract i (i + p.size)).size = p.size := by rw [ByteArray.size_extract]; omega
      rw [differ_some _ p hb1 (okPoly_bits hp) hsz (by omega) k (by omega), bsome]
      have hx0 : (x.extract 0 i).size = i := by rw [ByteArray.size_extract]; omega
      have hx1 : (x.extract (i + p.size) x.size).size = x.size - (i + p.size) := by rw [ByteArray.size_extract]; omega
      have hxl : (Crc.xorL (bo (x.extract i (i + p.size))) (bo p)).length = p.size := by rw [Crc.xorL_length _ _ (by rw [bo_len, bo_len, hsz]), bo_len, hsz]
      rw [if_pos (show (x.extract 0 i).size + (ob (Crc.xorL (bo (x.extract i (i + p.size))) (bo p))).size ≤ 9223372036854775807 by rw [hx0, ob_len, hxl]; omega),
        if_pos (show (0 : Int) ≤ ((i + p.size : Nat) : Int) by omega),
        if_pos (show ((x.extract 0 i) ++ (ob (Crc.xorL (bo (x.extract i (i + p.size))) (bo p)))).size + (x.extract (i + p.size) x.size).size ≤ 9223372036854775807 by rw [ByteArray.size_append, hx0, hx1, ob_len, hxl]; omega)]
      have hbn : okBits ((x.extract 0 i) ++ (ob (Crc.xorL (bo (x.extract i (i + p.size))) (bo p))) ++ (x.extract (i + p.size) x.size)) = true := by
        rw [okBits_append, okBits_append, okBits_extract x hb, okBits_extract x hb, okBits_ob]; rfl
      have hszn : ((x.extract 0 i) ++ (ob (Crc.xorL (bo (x.extract i (i + p.size))) (bo p))) ++ (x.extract (i + p.size) x.size)).size = x.size := by
        rw [ByteArray.size_append, ByteArray.size_append, hx0, hx1, ob_len, hxl]; omega
      rw [ih (i + 1) k _ (by rw [hszn]; omega) hbn (by rw [hszn]; exact hx) (by omega)]
      have eb : bo ((x.extract 0 i) ++ (ob (Crc.xorL (bo (x.extract i (i + p.size))) (bo p))) ++ (x.extract (i + p.size) x.size)) = (bo x).take i ++ (Crc.xorL (bo p) (((bo x).drop i).take p.size) ++ (bo x).drop (i + p.size)) := by
        rw [bo_append, bo_append, bo_ob, bo_extract, bo_extract, bo_extract, List.drop_zero, Nat.sub_zero, List.append_assoc, Crc.xorL_comm, show i + p.size - i = p.size by omega,
          List.take_of_length_le (l := (bo x).drop (i + p.size)) (by rw [List.length_drop, bo_len]; omega)]
      have ed : ((bo x).take i ++ (Crc.xorL (bo p) (((bo x).drop i).take p.size) ++ (bo x).drop (i + p.size))).drop i = Crc.xorL (bo p) ((bo x).drop i) := by
        rw [List.drop_left' (by rw [List.length_take, bo_len]; omega)]
        have : (bo x).drop i = ((bo x).drop i).take p.size ++ (bo x).drop (i + p.size) := by
          rw [← List.drop_drop, List.take_append_drop]
        conv => rhs; rw [this]
        rw [xorL_long _ _ _ (by rw [bo_len, List.length_take, List.length_drop, bo_len]; omega)]
      have ef : ((bo x).take i ++ (Crc.xorL (bo p) (((bo x).drop i).take p.size) ++ (bo x).drop (i + p.size))).drop (i + 1) = Crc.xorL (pt p) ((bo x).drop (i + 1)) := by
        rw [← List.tail_drop, ed, pt_cons hp, List.drop_eq_getElem_cons hix]
        rfl
      rw [eb, ef, if_pos rfl]
theorem specRem_some (p s : ByteArray) (hp : okPoly p = true) (hb : okBits s = true) (h1 : p.size ≤ s.size + 1) (hs : s.size ≤ 10000000) (k : Nat) (hk : s.size + 30 < k) : spec_remainder.f k p s = some (restB p s) := by
  have hz := okPoly_size hp
  unfold spec_remainder.f
  rw [w64 (by omega) (by omega)]
  have := remain_l0 p hp (s.size + 1 - p.size) 0 k s (by omega) hb hs (by omega)
  rw [show ((0 : Nat) : Int) = 0 by rfl, List.drop_zero] at this
  rw [this]
  unfold restB
  have g := rem_rst (pt p) (bo s) (by rw [pt_len]; omega) (by rw [pt_len, bo_len]; omega)
  rw [bo_len, pt_len, show s.size - (p.size - 1) = s.size + 1 - p.size by omega] at g
  rw [g]
theorem restB_len (p s : ByteArray) : (restB p s).size = p.size - 1 := by unfold restB; rw [ob_len, Crc.rst_length, pt_len]
/-- What RestOf is. -/
def rB (p s : ByteArray) : ByteArray := if okPoly p = true ∧ okBits s = true ∧ s.size ≤ 40 ∧ p.size - 1 ≤ s.size then restB p s else tb []
theorem specR_some (p s : ByteArray) (hp : p.size ≤ 10000000) (hs : s.size ≤ 10000000) (k : Nat) (hk : p.size + s.size + 50 < k) : spec_RestOf.f k p s = some (rB p s) := by
  unfold spec_RestOf.f rB
  rw [specPoly_some p (by omega) k (by omega), bsome]
  cases h1 : okPoly p with
  | false => rw [if_neg (by simp), if_neg (by simp)]; rfl
  | true =>
    have hz := okPoly_size h1
    rw [if_pos rfl, validBits_some s (by omega) k (by omega), bsome, w64 (by omega) (by omega)]
    by_cases h2 : okBits s = true ∧ s.size ≤ 40
    · rw [if_pos (by simp [h2.1, h2.2])]
      by_cases h3 : (s.size : Int) < (p.size : Int) - 1
      · rw [if_pos h3, if_neg (fun h => by have := h.2.2.2; omega)]; rfl
      · rw [if_neg h3, specRem_some p s h1 h2.1 (by omega) (by omega) k (by omega), bsome, if_pos ⟨rfl, h2.1, h2.2, by omega⟩]
    · rw [if_neg (by simpa using h2), if_neg (fun h => h2 ⟨h.2.1, h.2.2.1⟩)]; rfl
theorem implR_some (p s : ByteArray) (hp : p.size ≤ 10000000) (hs : s.size ≤ 10000000) : impl_RestOf.f p s = some (rB p s) := by
  unfold impl_RestOf.f rB
  rw [implPoly_some p (by omega), bsome]
  cases h1 : okPoly p with
  | false => rw [if_neg (by simp), if_neg (by simp)]; rfl
  | true =>
    have hz := okPoly_size h1
    rw [if_pos rfl, valid_some s (by omega), bsome, w64 (by omega) (by omega)]
    by_cases h2 : okBits s = true ∧ s.size ≤ 40
    · rw [if_pos (by simp [h2.1, h2.2])]
      by_cases h3 : (s.size : Int) < (p.size : Int) - 1
      · rw [if_pos h3, if_neg (fun h => by have := h.2.2.2; omega)]; rfl
      · rw [if_neg h3, implRest_some p s h1 h2.1 (by omega) (by omega), bsome, if_pos ⟨rfl, h2.1, h2.2, by omega⟩]
    · rw [if_neg (by simpa using h2), if_neg (fun h => h2 ⟨h.2.1, h.2.2.1⟩)]; rfl

/-! Sealed bits. -/
def allz (l : List Bool) : Bool := l.all (fun b => !b)
theorem allz_iff (l : List Bool) : allz l = true ↔ l = Crc.zer l.length := by
  unfold allz Crc.zer
  rw [List.all_eq_true, List.eq_replicate_iff]
  constructor
  · intro h
    exact ⟨rfl, fun b hb => by have := h b hb; simpa using this⟩
  · intro h b hb
    rw [h.2 b hb]; rfl
theorem none_some (l : List Bool) (hl : l.length ≤ 1000000) : impl_none.f (ob l) = some (allz l) := by
  unfold impl_none.f
  obtain ⟨t, ht, he⟩ := Trim_some (ob l) (⟨#[48]⟩ : ByteArray) (by rw [ob_len]; omega) (by decide) (by decide)
  rw [ht, bsome]
  have h1 : (bl (ob l)).all ((bl (⟨#[48]⟩ : ByteArray)).contains ·) = allz l := by
    rw [bl_ob, List.all_map]
    unfold allz
    congr 1
    funext b
    cases b <;> rfl
  rw [h1] at he
  congr 1
  cases h : allz l <;> rw [h] at he <;> simpa using he
theorem ones_l0 (s : ByteArray) (hb : okBits s = true) (hs : s.size ≤ 1000000) : ∀ (d j k acc : Nat), s.size - j = d → j ≤ s.size → acc ≤ j → d < k →
    spec_ones.l0 k s (acc : Int) (j : Int) = some (((acc + ((bo s).drop j).count true : Nat) : Int)) := by
  intro d
  induction d with
  | zero =>
    intro j k acc hd hj ha hk
    obtain ⟨k, rfl⟩ : ∃ m, k = m + 1 := ⟨k - 1, by omega⟩
    simp only [spec_ones.l0]
    rw [if_neg (by omega), List.drop_eq_nil_of_le (by rw [bo_len]; omega)]
    rfl
  | succ d ih =>
    intro j k acc hd hj ha hk
    obtain ⟨k, rfl⟩ : ∃ m, k = m + 1 := ⟨k - 1, by omega⟩
    simp only [spec_ones.l0]
    have hjl : j < (bo s).length := by rw [bo_len]; omega
    rw [if_pos (show (j : Int) < (s.size : Int) by omega), if_pos (show (0 : Int) ≤ (j : Int) by omega), w64s (by omega), w64s (by omega), bit_at s hb j (by omega), List.drop_eq_getElem_cons hjl]
    cases (bo s)[j] with
    | true =>
      rw [if_pos (show ib true = 49 from rfl), ih (j + 1) k (acc + 1) (by omega) (by omega) (by omega) (by omega), List.count_cons_self]
      congr 2
      omega
    | false =>
      rw [if_neg (by decide), ih (j + 1) k acc (by omega) (by omega) (by omega) (by omega), List.count_cons_of_ne (by decide)]
theorem ones_some (l : List Bool) (hl : l.length ≤ 1000000) (k : Nat) (hk : l.length < k) : ∃ n : Int, spec_ones.f k (ob l) = some n ∧ (n == 0) = allz l := by
  unfold spec_ones.f
  have := ones_l0 (ob l) (okBits_ob l) (by rw [ob_len]; exact hl) (ob l).size 0 k 0 (by omega) (by omega) (by omega) (by rw [ob_len]; exact hk)
  refine ⟨_, this, ?_⟩
  rw [List.drop_zero, bo_ob, Nat.zero_add, Bool.eq_iff_iff, beq_iff_eq]
  unfold allz
  rw [List.all_eq_true]
  constructor
  · intro h b hb
    have h0 : l.count true = 0 := by omega
    rw [List.count_eq_zero] at h0
    cases b with
    | false => rfl
    | true => exact absurd hb h0
  · intro h
    have h0 : l.count true = 0 := by
      rw [List.count_eq_zero]
      intro hb
      have := h _ hb
      simp at this
    omega
theorem whole_some (p s : ByteArray) (hp : okPoly p = true) (hb : okBits s = true) (h1 : p.size ≤ s.size + 1) (hs : s.size ≤ 100000) (k : Nat) (hk : s.size + 40 < k) : spec_whole.f k p s = some (allz (Crc.rst (pt p) (bo s))) := by
  have hz := okPoly_size hp
  unfold spec_whole.f
  rw [specRem_some p s hp hb h1 (by omega) k (by omega), bsome]
  obtain ⟨n, h2, h3⟩ := ones_some (Crc.rst (pt p) (bo s)) (by rw [Crc.rst_length, pt_len]; omega) k (by rw [Crc.rst_length, pt_len]; omega)
  unfold restB
  rw [h2, bsome, h3]
def isB (p s : ByteArray) : Bool := (okPoly p && (okBits s && decide (s.size ≤ 40)) && decide (p.size - 1 ≤ s.size)) && allz (Crc.rst (pt p) (bo s))
theorem implI_some (p s : ByteArray) (hp : p.size ≤ 10000000) (hs : s.size ≤ 10000000) : impl_IsSealed.f p s = some (isB p s) := by
  unfold impl_IsSealed.f
  rw [implR_some p s hp hs, bsome]
  unfold rB isB
  by_cases h : okPoly p = true ∧ okBits s = true ∧ s.size ≤ 40 ∧ p.size - 1 ≤ s.size
  · have hz := okPoly_size h.1
    rw [if_pos h, if_neg (fun e => by have := (toList_nil_iff _).1 e; rw [restB_len] at this; omega)]
    unfold restB
    rw [none_some _ (by rw [Crc.rst_length, pt_len]; omega), bsome]
    simp [h.1, h.2.1, h.2.2.1, h.2.2.2]
  · rw [if_neg h, if_pos nil_toList]
    congr 1
    symm
    rw [Bool.and_eq_false_iff]
    left
    cases h1 : okPoly p <;> cases h2 : okBits s <;> simp_all
theorem specI_some (p s : ByteArray) (hp : p.size ≤ 10000000) (hs : s.size ≤ 10000000) (k : Nat) (hk : p.size + s.size + 100 < k) : spec_IsSealed.f k p s = some (isB p s) := by
  unfold spec_IsSealed.f isB
  rw [specPoly_some p (by omega) k (by omega), bsome]
  cases h1 : okPoly p with
  | false => rw [if_neg (by simp)]; rfl
  | true =>
    have hz := okPoly_size h1
    rw [if_pos rfl, validBits_some s (by omega) k (by omega), bsome, w64 (by omega) (by omega)]
    by_cases h2 : okBits s = true ∧ s.size ≤ 40
    · have h20 : (okBits s && decide (s.size ≤ 40)) = true := by simp [h2.1, h2.2]
      rw [if_pos h20, h20]
      by_cases h3 : (s.size : Int) ≥ (p.size : Int) - 1
      · rw [if_pos h3, whole_some p s h1 h2.1 (by omega) (by omega) k (by omega), bsome, decide_eq_true (show p.size - 1 ≤ s.size by omega)]; rfl
      · rw [if_neg h3, decide_eq_false (show ¬ p.size - 1 ≤ s.size by omega)]; rfl
    · have h20 : (okBits s && decide (s.size ≤ 40)) = false := by
        cases h4 : okBits s with
        | false => rfl
        | true => have : ¬ s.size ≤ 40 := fun h => h2 ⟨h4, h⟩; simp [this]
      rw [if_neg (by rw [h20]; simp), h20]; rfl
/-! Noughts. -/
theorem zer_succ (n : Nat) : Crc.zer (n + 1) = Crc.zer n ++ [false] := by unfold Crc.zer; rw [List.replicate_succ']
theorem zeros_l0 : ∀ (d k a : Nat), a + d ≤ 1000000 → d < k → spec_zeros.l0 k (d : Int) (ob (Crc.zer a)) = some (ob (Crc.zer (a + d))) := by
  intro d
  induction d with
  | zero =>
    intro k a ha hk
    obtain ⟨k, rfl⟩ : ∃ m, k = m + 1 := ⟨k - 1, by omega⟩
    simp only [spec_zeros.l0]
    rw [if_neg (by omega)]; rfl
  | succ d ih =>
    intro k a ha hk
    obtain ⟨k, rfl⟩ : ∃ m, k = m + 1 := ⟨k - 1, by omega⟩
    simp only [spec_zeros.l0]
    have e : wrap64 (((d + 1 : Nat) : Int) - 1) = (d : Int) := by rw [w64 (by omega) (by omega)]; omega
    rw [if_pos (by omega), if_pos (by rw [ob_len]; simp [Crc.zer]; omega), e, e48o, ← ob_append, ← zer_succ, ih k (a + 1) (by omega) (by omega), show a + 1 + d = a + (d + 1) by omega]
theorem zeros_some (n k : Nat) (hn : n ≤ 1000000) (hk : n < k) : spec_zeros.f k (n : Int) = some (ob (Crc.zer n)) := by
  unfold spec_zeros.f
  have := zeros_l0 n k 0 (by omega) hk
  rw [Nat.zero_add] at this
  exact this
theorem repeat_some (n : Nat) (hn : n ≤ 1000000) : strings_Repeat.f (⟨#[48]⟩ : ByteArray) (n : Int) = some (ob (Crc.zer n)) := by
  unfold strings_Repeat.f
  rw [if_pos ⟨by omega, by omega, by decide⟩, Int.toNat_natCast]
  congr 1
  have : Lib.repeatL [48] n = List.replicate n 48 := by
    have := Lib.repeatL_replicate 48 1 n
    simpa using this
  show (⟨(Lib.repeatL [48] n).toArray⟩ : ByteArray) = ob (Crc.zer n)
  rw [this]
  unfold ob tb Crc.zer
  rw [List.map_replicate, List.map_replicate]
  rfl
/-- What SealBits is. -/
def sB (p s : ByteArray) : ByteArray := if okPoly p = true ∧ okBits s = true ∧ s.size + (p.size - 1) ≤ 40 then s ++ restB p (s ++ ob (Crc.zer (p.size - 1))) else tb []
theorem specSeal_some (p s : ByteArray) (hp : p.size ≤ 10000000) (hs : s.size ≤ 9000000) (k : Nat) (hk : p.size + s.size + 200 < k) : spec_SealBits.f k p s = some (sB p s) := by
  obtain ⟨k, rfl⟩ : ∃ m, k = m + 1 := ⟨k - 1, by omega⟩
  unfold spec_SealBits.f sB
  rw [specPoly_some p (by omega) _ (by omega), bsome]
  cases h1 : okPoly p with
  | false =>
    rw [if_neg (by simp), if_neg (by simp)]
    simp only [spec_SealBits.j0, if_true]
    rfl
  | true =>
    have hz := okPoly_size h1
    have e : wrap64 ((p.size : Int) - 1) = ((p.size - 1 : Nat) : Int) := by rw [w64 (by omega) (by omega)]; omega
    have hsz : (ob (Crc.zer (p.size - 1))).size = p.size - 1 := by rw [ob_len]; simp [Crc.zer]
    have hsa : (s ++ ob (Crc.zer (p.size - 1))).size = s.size + (p.size - 1) := by rw [ByteArray.size_append, hsz]
    have hok : okBits (s ++ ob (Crc.zer (p.size - 1))) = okBits s := by rw [okBits_append, okBits_ob, Bool.and_true]
    rw [if_pos rfl, e, zeros_some _ _ (by omega) (by omega), bsome, if_pos (by omega), validBits_some _ (by omega) _ (by omega), bsome, hok, hsa]
    simp only [spec_SealBits.j0]
    by_cases h2 : okBits s = true ∧ s.size + (p.size - 1) ≤ 40
    · have h20 : (!(okBits s && decide (s.size + (p.size - 1) ≤ 40))) = false := by simp [h2.1]; exact h2.2
      rw [if_neg (by rw [h20]; simp), e, zeros_some _ _ (by omega) (by omega), bsome, if_pos (by omega), specRem_some p _ h1 (by rw [hok]; exact h2.1) (by omega) (by omega) _ (by omega), bsome, if_pos (by rw [restB_len]; omega),
        if_pos ⟨by trivial, h2.1, h2.2⟩]
    · have h20 : (!(okBits s && decide (s.size + (p.size - 1) ≤ 40))) = true := by
        cases h4 : okBits s with
        | false => rfl
        | true => have : ¬ s.size + (p.size - 1) ≤ 40 := fun h => h2 ⟨h4, h⟩; simp [this]
      rw [if_pos h20, if_neg (fun h => h2 h.2)]
      rfl
theorem implSeal_some (p s : ByteArray) (hp : p.size ≤ 10000000) (hs : s.size ≤ 9000000) (k : Nat) (hk : 1 ≤ k) : impl_SealBits.f k p s = some (sB p s) := by
  obtain ⟨k, rfl⟩ : ∃ m, k = m + 1 := ⟨k - 1, by omega⟩
  unfold impl_SealBits.f sB
  rw [implPoly_some p (by omega), bsome]
  cases h1 : okPoly p with
  | false =>
    rw [if_neg (by simp), if_neg (by simp)]
    simp only [impl_SealBits.j0, if_true]
    rfl
  | true =>
    have hz := okPoly_size h1
    have e : wrap64 ((p.size : Int) - 1) = ((p.size - 1 : Nat) : Int) := by rw [w64 (by omega) (by omega)]; omega
    have hsz : (ob (Crc.zer (p.size - 1))).size = p.size - 1 := by rw [ob_len]; simp [Crc.zer]
    have hsa : (s ++ ob (Crc.zer (p.size - 1))).size = s.size + (p.size - 1) := by rw [ByteArray.size_append, hsz]
    have hok : okBits (s ++ ob (Crc.zer (p.size - 1))) = okBits s := by rw [okBits_append, okBits_ob, Bool.and_true]
    rw [if_pos rfl, valid_some s (by omega), bsome]
    cases h4 : okBits s with
    | false =>
      rw [if_neg (by simp)]
      simp only [impl_SealBits.j0, if_true]
      rw [if_neg (by simp)]
      rfl
    | true =>
      have e2 : wrap64 (wrap64 ((s.size : Int) + (p.size : Int)) - 1) = ((s.size + (p.size - 1) : Nat) : Int) := by rw [w64 (n := (s.size : Int) + p.size) (by omega) (by omega), w64 (by omega) (by omega)]; omega
      rw [e2]
      simp only [impl_SealBits.j0, Bool.true_and]
      by_cases h3 : s.size ≤ 40
      · rw [if_pos (by simpa using h3)]
        by_cases h2 : s.size + (p.size - 1) ≤ 40
        · have h20 : decide (((s.size + (p.size - 1) : Nat) : Int) > 40) = false := by simp; omega
          rw [if_neg (by rw [h20]; simp), e, repeat_some _ (by omega), bsome, if_pos (by omega), implRest_some p _ h1 (by rw [hok]; exact h4) (by omega) (by omega), bsome, if_pos (by rw [restB_len]; omega),
            if_pos ⟨by trivial, by trivial, h2⟩]
        · have h20 : decide (((s.size + (p.size - 1) : Nat) : Int) > 40) = true := by simp; omega
          rw [if_pos h20, if_neg (fun h => h2 h.2.2)]
          rfl
      · rw [if_neg (by simpa using h3), if_pos (by trivial), if_neg (fun h => by have := h.2.2; omega)]
        rfl

/-! Cycles. -/
def W (p : ByteArray) (d : Nat) : Bool := allz (Crc.rst (pt p) (Crc.apart d))
theorem least (P : Nat → Bool) : ∀ n, P n = true → ∃ c, c ≤ n ∧ P c = true ∧ ∀ j, j < c → P j = false := by
  intro n
  induction n using Nat.strongRecOn with
  | ind n ih =>
    intro h
    by_cases hj : ∃ j, j < n ∧ P j = true
    · obtain ⟨j, h1, h2⟩ := hj
      obtain ⟨c, h3, h4, h5⟩ := ih j h1 h2
      exact ⟨c, by omega, h4, h5⟩
    · refine ⟨n, Nat.le_refl _, h, fun j h1 => ?_⟩
      cases h2 : P j with
      | false => rfl
      | true => exact absurd ⟨j, h1, h2⟩ hj
theorem apart_len (d : Nat) (h : 1 ≤ d) : (Crc.apart d).length = d + 1 := by simp [Crc.apart, Crc.zer]; omega
theorem apart_ob (d : Nat) (h : 1 ≤ d) : ((⟨#[49]⟩ : ByteArray) ++ ob (Crc.zer (d - 1))) ++ (⟨#[49]⟩ : ByteArray) = ob (Crc.apart d) := by
  rw [e49o, ← ob_append, ← ob_append]
  rfl
theorem W_iff (p : ByteArray) (d : Nat) : W p d = true ↔ Crc.rst (pt p) (Crc.apart d) = Crc.zer (pt p).length := by
  unfold W
  rw [allz_iff, Crc.rst_length]
theorem W_short {p : ByteArray} (d : Nat) (h1 : 1 ≤ d) (h : d + 1 ≤ (pt p).length) : W p d = false := by
  unfold W
  rw [Crc.rst_short (by rw [apart_len d h1]; exact h)]
  unfold allz Crc.apart
  simp
theorem cyc_there {p : ByteArray} (hp : okPoly p = true) : ∃ c, 1 ≤ c ∧ c ≤ 256 ∧ p.size ≤ c + 1 ∧ W p c = true ∧ ∀ j, 1 ≤ j → j < c → W p j = false := by
  have hz := okPoly_size hp
  obtain ⟨n, h1, h2, h3⟩ := Crc.cycle_there (pt_last hp)
  have hn : W p n = true := (W_iff p n).2 ((Crc.apart_iff h1).2 h3)
  obtain ⟨c, g1, g2, g3⟩ := least (fun d => decide (1 ≤ d) && W p d) n (by simp [h1, hn])
  simp only [Bool.and_eq_true, decide_eq_true_eq] at g2
  have hp2 : 2 ^ (pt p).length ≤ 2 ^ 8 := Nat.pow_le_pow_right (by omega) (by rw [pt_len]; omega)
  refine ⟨c, g2.1, by omega, ?_, g2.2, fun j j1 j2 => ?_⟩
  · by_cases hs : c + 1 ≤ (pt p).length
    · have := W_short c g2.1 hs
      rw [g2.2] at this; cases this
    · rw [pt_len] at hs; omega
  · have := g3 j j2
    simpa [j1] using this
theorem implC_l0 {p : ByteArray} (hp : okPoly p = true) (c : Nat) (hc : c ≤ 256) (hw : W p c = true) (hm : ∀ j, 1 ≤ j → j < c → W p j = false) : ∀ (d j k : Nat), c - j = d → 1 ≤ j → j ≤ c → d < k →
    impl_CycleOf.l0 k p (j : Int) = some (c : Int) := by
  have hz := okPoly_size hp
  intro d
  induction d with
  | zero =>
    intro j k hd h1 hj hk
    obtain ⟨k, rfl⟩ : ∃ m, k = m + 1 := ⟨k - 1, by omega⟩
    obtain rfl : j = c := by omega
    simp only [impl_CycleOf.l0]
    have e : wrap64 ((j : Int) - 1) = ((j - 1 : Nat) : Int) := by rw [w64 (by omega) (by omega)]; omega
    have hsz : (ob (Crc.zer (j - 1))).size = j - 1 := by rw [ob_len]; simp [Crc.zer]
    have h49 : (⟨#[49]⟩ : ByteArray).size = 1 := rfl
    have hsa : (ob (Crc.apart j)).size = j + 1 := by rw [ob_len, apart_len j h1]
    have hlong : p.size ≤ j + 1 + 1 := by
      by_cases hs : j + 1 ≤ (pt p).length
      · have := W_short j h1 hs
        rw [hw] at this; cases this
      · rw [pt_len] at hs; omega
    rw [e, repeat_some _ (by omega), bsome, if_pos (by omega), if_pos (by rw [ByteArray.size_append]; omega), apart_ob j h1, hsa, w64 (by omega) (by omega), if_pos (by omega),
      implRest_some p _ hp (okBits_ob _) (by omega) (by omega), bsome]
    unfold restB
    rw [none_some _ (by rw [Crc.rst_length, pt_len]; omega), bsome, bo_ob, if_pos (show allz (Crc.rst (pt p) (Crc.apart j)) = true from hw)]
  | succ d ih =>
    intro j k hd h1 hj hk
    obtain ⟨k, rfl⟩ : ∃ m, k = m + 1 := ⟨k - 1, by omega⟩
    simp only [impl_CycleOf.l0]
    have e : wrap64 ((j : Int) - 1) = ((j - 1 : Nat) : Int) := by rw [w64 (by omega) (by omega)]; omega
    have hsz : (ob (Crc.zer (j - 1))).size = j - 1 := by rw [ob_len]; simp [Crc.zer]
    have h49 : (⟨#[49]⟩ : ByteArray).size = 1 := rfl
    have hsa : (ob (Crc.apart j)).size = j + 1 := by rw [ob_len, apart_len j h1]
    have hwj := hm j h1 (by omega)
    rw [e, repeat_some _ (by omega), bsome, if_pos (by omega), if_pos (by rw [ByteArray.size_append]; omega), apart_ob j h1, hsa, w64 (n := (p.size : Int) - 1) (by omega) (by omega), w64s (by omega)]
    by_cases hl : ((j + 1 : Nat) : Int) ≥ (p.size : Int) - 1
    · rw [if_pos hl, implRest_some p _ hp (okBits_ob _) (by omega) (by omega), bsome]
      unfold restB
      rw [none_some _ (by rw [Crc.rst_length, pt_len]; omega), bsome, bo_ob, if_neg (by unfold W at hwj; rw [hwj]; simp)]
      exact ih (j + 1) k (by omega) (by omega) (by omega) (by omega)
    · rw [if_neg hl]
      exact ih (j + 1) k (by omega) (by omega) (by omega) (by omega)
theorem remain_short (p s : ByteArray) (h : s.size < p.size) (hb : p.size ≤ 1000000) (k : Nat) (hk : 1 ≤ k) : spec_remainder.f k p s = some s := by
  obtain ⟨k, rfl⟩ : ∃ m, k = m + 1 := ⟨k - 1, by omega⟩
  unfold spec_remainder.f
  rw [w64 (by omega) (by omega)]
  simp only [spec_remainder.l0]
  rw [w64 (n := 0 + ((p.size : Int) - 1)) (by omega) (by omega), if_neg (by omega), w64 (n := (s.size : Int) - ((p.size : Int) - 1)) (by omega) (by omega)]
  by_cases h0 : (s.size : Int) - ((p.size : Int) - 1) ≤ 0
  · have e : mx ((s.size : Int) - ((p.size : Int) - 1)) 0 = 0 := by unfold mx; split <;> omega
    rw [e, if_pos (by omega), if_pos (by omega)]
    congr 1
    simp
  · have e : mx ((s.size : Int) - ((p.size : Int) - 1)) 0 = 0 := by unfold mx; split <;> omega
    rw [e, if_pos (by omega), if_pos (by omega)]
    congr 1
    simp
theorem whole_apart {p : ByteArray} (hp : okPoly p = true) (j : Nat) (h1 : 1 ≤ j) (hj : j ≤ 256) (k : Nat) (hk : 400 < k) : spec_whole.f k p (ob (Crc.apart j)) = some (W p j) := by
  have hz := okPoly_size hp
  have hsa : (ob (Crc.apart j)).size = j + 1 := by rw [ob_len, apart_len j h1]
  by_cases hl : p.size ≤ j + 1 + 1
  · rw [whole_some p _ hp (okBits_ob _) (by omega) (by omega) k (by omega), bo_ob]; rfl
  · unfold spec_whole.f
    rw [remain_short p _ (by omega) (by omega) k (by omega), bsome]
    obtain ⟨n, h2, h3⟩ := ones_some (Crc.apart j) (by rw [apart_len j h1]; omega) k (by rw [apart_len j h1]; omega)
    rw [h2, bsome, h3, W_short j h1 (by rw [pt_len]; omega)]
    simp [allz, Crc.apart]
theorem specC_l0 {p : ByteArray} (hp : okPoly p = true) (c : Nat) (hc : c ≤ 256) (hlong : p.size ≤ c + 1) (hw : W p c = true) (hm : ∀ j, 1 ≤ j → j < c → W p j = false) : ∀ (d j k : Nat), c - j = d → 1 ≤ j → j ≤ c → d + 500 < k →
    spec_CycleOf.l0 k p (j : Int) = some (c : Int) := by
  have hz := okPoly_size hp
  intro d
  induction d with
  | zero =>
    intro j k hd h1 hj hk
    obtain ⟨k, rfl⟩ : ∃ m, k = m + 1 := ⟨k - 1, by omega⟩
    obtain rfl : j = c := by omega
    simp only [spec_CycleOf.l0]
    have e : wrap64 ((j : Int) - 1) = ((j - 1 : Nat) : Int) := by rw [w64 (by omega) (by omega)]; omega
    have hsz : (ob (Crc.zer (j - 1))).size = j - 1 := by rw [ob_len]; simp [Crc.zer]
    have h49 : (⟨#[49]⟩ : ByteArray).size = 1 := rfl
    rw [e, zeros_some _ _ (by omega) (by omega), bsome, if_pos (by omega), if_pos (by rw [ByteArray.size_append]; omega), apart_ob j h1, whole_apart hp j h1 hc k (by omega), bsome, if_pos hw, w64 (n := (p.size : Int) - 1) (by omega) (by omega),
      if_neg (by omega)]
  | succ d ih =>
    intro j k hd h1 hj hk
    obtain ⟨k, rfl⟩ : ∃ m, k = m + 1 := ⟨k - 1, by omega⟩
    simp only [spec_CycleOf.l0]
    have e : wrap64 ((j : Int) - 1) = ((j - 1 : Nat) : Int) := by rw [w64 (by omega) (by omega)]; omega
    have hsz : (ob (Crc.zer (j - 1))).size = j - 1 := by rw [ob_len]; simp [Crc.zer]
    have h49 : (⟨#[49]⟩ : ByteArray).size = 1 := rfl
    have hwj := hm j h1 (by omega)
    rw [e, zeros_some _ _ (by omega) (by omega), bsome, if_pos (by omega), if_pos (by rw [ByteArray.size_append]; omega), apart_ob j h1, whole_apart hp j h1 (by omega) k (by omega), bsome, if_neg (by rw [hwj]; simp), w64s (by omega)]
    exact ih (j + 1) k (by omega) (by omega) (by omega) (by omega)
theorem cyc_some (p : ByteArray) (hs : p.size ≤ 10000000) : ∃ c : Int, (∀ k, 1000 + p.size ≤ k → impl_CycleOf.f k p = some c ∧ spec_CycleOf.f k p = some c) ∧
    (okPoly p = false → c = -1) ∧ (okPoly p = true → ∃ n : Nat, c = n ∧ 1 ≤ n ∧ n ≤ 256 ∧ p.size ≤ n + 1 ∧ W p n = true ∧ ∀ j, 1 ≤ j → j < n → W p j = false) := by
  cases hp : okPoly p with
  | false =>
    refine ⟨-1, fun k hk => ⟨?_, ?_⟩, fun _ => rfl, fun h => by cases h⟩
    · unfold impl_CycleOf.f
      rw [implPoly_some p (by omega), bsome, hp, if_neg (by simp)]
    · unfold spec_CycleOf.f
      rw [specPoly_some p (by omega) k (by omega), bsome, hp, if_neg (by simp)]
  | true =>
    obtain ⟨c, h1, h2, h3, h4, h5⟩ := cyc_there hp
    refine ⟨(c : Int), fun k hk => ⟨?_, ?_⟩, (fun h => by cases h), fun _ => ⟨c, rfl, h1, h2, h3, h4, h5⟩⟩
    · unfold impl_CycleOf.f
      rw [implPoly_some p (by omega), bsome, hp, if_pos rfl]
      exact implC_l0 hp c h2 h4 h5 (c - 1) 1 k rfl (by omega) h1 (by omega)
    · unfold spec_CycleOf.f
      rw [specPoly_some p (by omega) k (by omega), bsome, hp, if_pos rfl]
      exact specC_l0 hp c h2 h3 h4 h5 (c - 1) 1 k rfl (by omega) h1 (by omega)

/-- One of some strings, picked. -/
theorem of_some {b : List Int} {p n : Int} (h : RS b p n) (hn : n ≤ 1000000000) (l : List ByteArray) (hl : 1 ≤ l.length) (hm : l.length ≤ 1000000) : ∃ r, (∀ k, 1 ≤ k → spec_reader_of.f k b p l = some (r, p + 1)) ∧ r ∈ l ∧ RS b (p + 1) (n + 1) := by
  obtain ⟨r, hr, r0, r1, hR⟩ := pick_some h hn (l.length : Int) (by omega)
  have r2 := r1 (by omega)
  refine ⟨rdOf ByteArray.empty l r, fun k hk => ?_, ?_, hR⟩
  · unfold spec_reader_of.f
    rw [hr k hk, bsome]
    rw [if_pos r0, if_pos r2]
  · unfold rdOf
    rw [List.getD_eq_getElem?_getD, List.getElem?_eq_getElem (by omega)]
    exact List.getElem_mem _

/-! Drawn divisors and bits. -/
theorem aPoly_some {b : List Int} {p n : Int} (hR : RS b p n) (hn : n ≤ 5000) (k : Nat) (hk : 10 ≤ k) : ∃ t q, spec_aPoly.f k b p = some (t, q) ∧ t.size ≤ 10 ∧ RS b q (n + 2) := by
  unfold spec_aPoly.f
  obtain ⟨r, hr, r0, r1, hR1⟩ := pick_some hR (by omega) 24 (by omega)
  rw [hr k (by omega), bsome]
  simp only []
  by_cases h0 : r = 0
  · rw [if_pos h0]
    obtain ⟨t, ht, hm, hR2⟩ := of_some hR1 (by omega) ([(⟨#[]⟩ : ByteArray), (⟨#[49]⟩ : ByteArray), (⟨#[49, 48]⟩ : ByteArray), (⟨#[48, 49]⟩ : ByteArray), (⟨#[49, 48, 48, 48, 48, 48, 48, 48, 48, 49]⟩ : ByteArray), (⟨#[49, 120, 49]⟩ : ByteArray)]) (by simp) (by simp)
    have h1 : t.size ≤ 10 := by
      simp only [List.mem_cons, List.not_mem_nil, or_false] at hm
      rcases hm with rfl | rfl | rfl | rfl | rfl | rfl <;> decide
    rw [ht k (by omega), bsome]
    exact ⟨t, _, rfl, h1, hR2.le (by omega)⟩
  · rw [if_neg h0]
    obtain ⟨t, ht, hm, hR2⟩ := of_some hR1 (by omega) ([(⟨#[49, 48, 49, 49]⟩ : ByteArray), (⟨#[49, 49]⟩ : ByteArray), (⟨#[49, 49, 49]⟩ : ByteArray), (⟨#[49, 48, 48, 49, 49]⟩ : ByteArray), (⟨#[49, 49, 48, 49]⟩ : ByteArray), (⟨#[49, 48, 49]⟩ : ByteArray), (⟨#[49, 49, 48, 48, 48, 49]⟩ : ByteArray), (⟨#[49, 48, 48, 48, 48, 48, 49, 49, 49]⟩ : ByteArray), (⟨#[49, 49, 48, 49, 49]⟩ : ByteArray), (⟨#[49, 49, 49, 49]⟩ : ByteArray)]) (by simp) (by simp)
    have h1 : t.size ≤ 10 := by
      simp only [List.mem_cons, List.not_mem_nil, or_false] at hm
      rcases hm with rfl | rfl | rfl | rfl | rfl | rfl | rfl | rfl | rfl | rfl <;> decide
    rw [ht k (by omega), bsome]
    exact ⟨t, _, rfl, h1, hR2.le (by omega)⟩

/-! Pairs that are not seen: both programs. -/
def b1 (P : Nat → Bool) (n a : Nat) : Nat → List (List Int)
  | 0 => []
  | d + 1 => (if P (n - (d + 1) - a) = true then [[(a : Int), ((n - (d + 1) : Nat) : Int)]] else []) ++ b1 P n a d
def b0 (P : Nat → Bool) (n : Nat) : Nat → List (List Int)
  | 0 => []
  | d + 1 => b1 P n (n - (d + 1)) d ++ b0 P n d
set_option maxRecDepth 100000 in
theorem two_set : ∀ n, n < 21 → ∀ b, b < n → ∀ a, a < b → ((Crc.zer n).set a true).set b true = Crc.zer a ++ Crc.apart (b - a) ++ Crc.zer (n - b - 1) := by decide +kernel
theorem zer_len' (n : Nat) : (Crc.zer n).length = n := by simp [Crc.zer]
theorem between {p : ByteArray} (hp : okPoly p = true) (n a b : Nat) : allz (Crc.rst (pt p) (Crc.zer a ++ Crc.apart (b - a) ++ Crc.zer (n - b - 1))) = W p (b - a) := by
  rw [Bool.eq_iff_iff, allz_iff, Crc.rst_length, W_iff]
  exact Crc.rst_between (pt_last hp) _ _ _
theorem pin_some (n a b : Nat) (hn : n ≤ 20) (hab : a < b) (hb : b < n) : PINB.f (ob (Crc.zer n)) (a : Int) (b : Int) = some (ob (Crc.zer a ++ Crc.apart (b - a) ++ Crc.zer (n - b - 1))) := by
  unfold PINB.f
  have hsz : (ob (Crc.zer n)).size = n := by rw [ob_len, zer_len']
  rw [if_pos (by rw [hsz]; omega), Int.toNat_natCast, Int.toNat_natCast, ← two_set n (by omega) b hb a hab]
  congr 1
  show tb (((bl (ob (Crc.zer n))).set a 49).set b 49) = ob (((Crc.zer n).set a true).set b true)
  rw [bl_ob]
  unfold ob
  rw [List.map_set, List.map_set]
  rfl
theorem pair_len (n a b : Nat) (hab : a < b) (hb : b < n) : (ob (Crc.zer a ++ Crc.apart (b - a) ++ Crc.zer (n - b - 1))).size = n := by
  rw [ob_len, List.length_append, List.length_append, zer_len', zer_len', apart_len _ (by omega)]
  omega
theorem implB_l1 {p : ByteArray} (hp : okPoly p = true) (n : Nat) (hn : n ≤ 20) (h1 : p.size - 1 ≤ n) (a d' : Nat) (ha : n - (a + 1) = d') (hal : a < n) (rest : List (List Int))
    (next : ∀ (k : Nat) (acc : List (List Int)), acc.length + 50 * d' ≤ 100000 → 100 * d' + 500 ≤ k → impl_BlindOf.l0 k p (n : Int) acc (n : Int) ((a + 1 : Nat) : Int) = some (acc ++ rest)) :
    ∀ (e b k : Nat) (acc : List (List Int)), n - b = e → a < b → b ≤ n → acc.length + e + 50 * d' ≤ 100000 → 100 * d' + 550 + e ≤ k →
      impl_BlindOf.l1 k p (n : Int) acc (a : Int) (b : Int) (n : Int) (a : Int) = some (acc ++ (b1 (W p) n a e ++ rest)) := by
  have hz := okPoly_size hp
  intro e
  induction e with
  | zero =>
    intro b k acc he hab hb hacc hk
    obtain ⟨k, rfl⟩ : ∃ m, k = m + 1 := ⟨k - 1, by omega⟩
    simp only [impl_BlindOf.l1]
    rw [if_neg (by omega), w64s (by omega), next k acc (by omega) (by omega)]
    rfl
  | succ e ih =>
    intro b k acc he hab hb hacc hk
    obtain ⟨k, rfl⟩ : ∃ m, k = m + 1 := ⟨k - 1, by omega⟩
    simp only [impl_BlindOf.l1]
    have hbn : b < n := by omega
    have hsz := pair_len n a b hab hbn
    rw [if_pos (by omega), repeat_some n (by omega), bsome, pin_some n a b hn hab hbn, bsome, implRest_some p _ hp (okBits_ob _) (by omega) (by omega), bsome]
    unfold restB
    rw [none_some _ (by rw [Crc.rst_length, pt_len]; omega), bsome, bo_ob, between hp, w64s (by omega)]
    have hb1 : b1 (W p) n a (e + 1) = (if W p (b - a) = true then [[(a : Int), (b : Int)]] else []) ++ b1 (W p) n a e := by rw [b1, show n - (e + 1) = b by omega]
    rw [hb1]
    cases hw : W p (b - a) with
    | true =>
      rw [if_pos rfl, if_pos rfl, if_pos (by omega), ih (b + 1) k _ (by omega) (by omega) (by omega) (by simp; omega) (by omega)]
      simp
    | false =>
      rw [if_neg (by simp), if_neg (by simp), ih (b + 1) k _ (by omega) (by omega) (by omega) (by omega) (by omega)]
      simp
theorem implB_l0 {p : ByteArray} (hp : okPoly p = true) (n : Nat) (hn : n ≤ 20) (h1 : p.size - 1 ≤ n) : ∀ (d a k : Nat) (acc : List (List Int)), n - a = d → a ≤ n → acc.length + 50 * d ≤ 100000 → 100 * d + 500 ≤ k →
    impl_BlindOf.l0 k p (n : Int) acc (n : Int) (a : Int) = some (acc ++ b0 (W p) n d) := by
  intro d
  induction d with
  | zero =>
    intro a k acc hd ha hacc hk
    obtain ⟨k, rfl⟩ : ∃ m, k = m + 1 := ⟨k - 1, by omega⟩
    simp only [impl_BlindOf.l0]
    rw [if_neg (by omega)]
    simp [b0]
  | succ d ih =>
    intro a k acc hd ha hacc hk
    obtain ⟨k, rfl⟩ : ∃ m, k = m + 1 := ⟨k - 1, by omega⟩
    simp only [impl_BlindOf.l0]
    rw [if_pos (by omega), w64s (by omega), implB_l1 hp n hn h1 a d (by omega) (by omega) (b0 (W p) n d) (fun k acc h2 h3 => ih (a + 1) k acc (by omega) (by omega) h2 h3) d (a + 1) k acc (by omega) (by omega) (by omega) (by omega) (by omega),
      b0, show n - (d + 1) = a by omega]
theorem specB_l1 {p : ByteArray} (hp : okPoly p = true) (n : Nat) (hn : n ≤ 20) (h1 : p.size - 1 ≤ n) (a d' : Nat) (ha : n - (a + 1) = d') (hal : a < n) (rest : List (List Int))
    (next : ∀ (k : Nat) (acc : List (List Int)), acc.length + 50 * d' ≤ 100000 → 100 * d' + 500 ≤ k → spec_BlindOf.l0 k p (n : Int) acc ((a + 1 : Nat) : Int) = some (acc ++ rest)) :
    ∀ (e b k : Nat) (acc : List (List Int)), n - b = e → a < b → b ≤ n → acc.length + e + 50 * d' ≤ 100000 → 100 * d' + 550 + e ≤ k →
      spec_BlindOf.l1 k p (n : Int) acc (a : Int) (b : Int) = some (acc ++ (b1 (W p) n a e ++ rest)) := by
  have hz := okPoly_size hp
  intro e
  induction e with
  | zero =>
    intro b k acc he hab hb hacc hk
    obtain ⟨k, rfl⟩ : ∃ m, k = m + 1 := ⟨k - 1, by omega⟩
    simp only [spec_BlindOf.l1]
    rw [if_neg (by omega), w64s (by omega), next k acc (by omega) (by omega)]
    rfl
  | succ e ih =>
    intro b k acc he hab hb hacc hk
    obtain ⟨k, rfl⟩ : ∃ m, k = m + 1 := ⟨k - 1, by omega⟩
    simp only [spec_BlindOf.l1]
    have hbn : b < n := by omega
    have hsz := pair_len n a b hab hbn
    have q1 : wrap64 (wrap64 ((b : Int) - (a : Int)) - 1) = ((b - a - 1 : Nat) : Int) := by rw [w64 (n := (b : Int) - a) (by omega) (by omega), w64 (by omega) (by omega)]; omega
    have q2 : wrap64 (wrap64 ((n : Int) - (b : Int)) - 1) = ((n - b - 1 : Nat) : Int) := by rw [w64 (n := (n : Int) - b) (by omega) (by omega), w64 (by omega) (by omega)]; omega
    have z1 : (ob (Crc.zer a)).size = a := by rw [ob_len, zer_len']
    have z2 : (ob (Crc.zer (b - a - 1))).size = b - a - 1 := by rw [ob_len, zer_len']
    have z3 : (ob (Crc.zer (n - b - 1))).size = n - b - 1 := by rw [ob_len, zer_len']
    have z4 : (⟨#[49]⟩ : ByteArray).size = 1 := rfl
    have es : (((ob (Crc.zer a) ++ (⟨#[49]⟩ : ByteArray)) ++ ob (Crc.zer (b - a - 1))) ++ (⟨#[49]⟩ : ByteArray)) ++ ob (Crc.zer (n - b - 1)) = ob (Crc.zer a ++ Crc.apart (b - a) ++ Crc.zer (n - b - 1)) := by
      rw [e49o, ← ob_append, ← ob_append, ← ob_append, ← ob_append]
      congr 1
      simp [Crc.apart]
    rw [if_pos (by omega), q1, q2, zeros_some a k (by omega) (by omega), bsome, if_pos (by omega), zeros_some (b - a - 1) k (by omega) (by omega), bsome, if_pos (by rw [ByteArray.size_append]; omega),
      if_pos (by rw [ByteArray.size_append, ByteArray.size_append]; omega), zeros_some (n - b - 1) k (by omega) (by omega), bsome, if_pos (by rw [ByteArray.size_append, ByteArray.size_append, ByteArray.size_append]; omega), es,
      whole_some p _ hp (okBits_ob _) (by omega) (by omega) k (by omega), bsome, bo_ob, between hp, w64s (by omega)]
    have hb1 : b1 (W p) n a (e + 1) = (if W p (b - a) = true then [[(a : Int), (b : Int)]] else []) ++ b1 (W p) n a e := by rw [b1, show n - (e + 1) = b by omega]
    rw [hb1]
    cases hw : W p (b - a) with
    | true =>
      rw [if_pos rfl, if_pos rfl, if_pos (by omega), ih (b + 1) k _ (by omega) (by omega) (by omega) (by simp; omega) (by omega)]
      simp
    | false =>
      rw [if_neg (by simp), if_neg (by simp), ih (b + 1) k _ (by omega) (by omega) (by omega) (by omega) (by omega)]
      simp
theorem specB_l0 {p : ByteArray} (hp : okPoly p = true) (n : Nat) (hn : n ≤ 20) (h1 : p.size - 1 ≤ n) : ∀ (d a k : Nat) (acc : List (List Int)), n - a = d → a ≤ n → acc.length + 50 * d ≤ 100000 → 100 * d + 500 ≤ k →
    spec_BlindOf.l0 k p (n : Int) acc (a : Int) = some (acc ++ b0 (W p) n d) := by
  intro d
  induction d with
  | zero =>
    intro a k acc hd ha hacc hk
    obtain ⟨k, rfl⟩ : ∃ m, k = m + 1 := ⟨k - 1, by omega⟩
    simp only [spec_BlindOf.l0]
    rw [if_neg (by omega)]
    simp [b0]
  | succ d ih =>
    intro a k acc hd ha hacc hk
    obtain ⟨k, rfl⟩ : ∃ m, k = m + 1 := ⟨k - 1, by omega⟩
    simp only [spec_BlindOf.l0]
    rw [if_pos (by omega), w64s (by omega), specB_l1 hp n hn h1 a d (by omega) (by omega) (b0 (W p) n d) (fun k acc h2 h3 => ih (a + 1) k acc (by omega) (by omega) h2 h3) d (a + 1) k acc (by omega) (by omega) (by omega) (by omega) (by omega),
      b0, show n - (d + 1) = a by omega]
def bB (p : ByteArray) (n : Int) : List (List Int) := if okPoly p = true ∧ (p.size : Int) - 1 ≤ n ∧ n ≤ 20 then b0 (W p) n.toNat n.toNat else []
theorem implB_some (p : ByteArray) (hs : p.size ≤ 1000000) (n : Int) (k : Nat) (hk : 4000 ≤ k) : impl_BlindOf.f k p n = some (bB p n) := by
  obtain ⟨k, rfl⟩ : ∃ m, k = m + 1 := ⟨k - 1, by omega⟩
  unfold impl_BlindOf.f bB
  rw [implPoly_some p (by omega), bsome]
  cases hp : okPoly p with
  | false =>
    rw [if_neg (by simp), if_neg (by simp)]
    simp only [impl_BlindOf.j0, if_true]
  | true =>
    have hz := okPoly_size hp
    rw [if_pos rfl, w64 (by omega) (by omega)]
    by_cases h1 : n < (p.size : Int) - 1
    · rw [if_pos h1, if_neg (fun h => by have := h.2.1; omega)]
      simp only [impl_BlindOf.j0, if_true]
    · rw [if_neg h1]
      by_cases h2 : n > 20
      · rw [decide_eq_true h2, if_neg (fun h => by have := h.2.2; omega)]
        simp only [impl_BlindOf.j0, if_true]
      · rw [decide_eq_false h2, if_pos ⟨rfl, by omega, by omega⟩]
        simp only [impl_BlindOf.j0, Bool.false_eq_true, if_false]
        obtain ⟨m, rfl⟩ := Int.eq_ofNat_of_zero_le (show 0 ≤ n by omega)
        have := implB_l0 hp m (by omega) (by omega) m 0 k [] rfl (by omega) (by simp; omega) (by omega)
        rw [show ((0 : Nat) : Int) = 0 by rfl, List.nil_append] at this
        rw [this, Int.toNat_natCast]
theorem specB_some (p : ByteArray) (hs : p.size ≤ 1000000) (n : Int) (k : Nat) (hk : 4000 + p.size ≤ k) : spec_BlindOf.f k p n = some (bB p n) := by
  obtain ⟨k, rfl⟩ : ∃ m, k = m + 1 := ⟨k - 1, by omega⟩
  unfold spec_BlindOf.f bB
  rw [specPoly_some p (by omega) _ (by omega), bsome]
  cases hp : okPoly p with
  | false =>
    rw [if_neg (by simp), if_neg (by simp)]
    simp only [spec_BlindOf.j0, if_true]
  | true =>
    have hz := okPoly_size hp
    rw [if_pos rfl, w64 (by omega) (by omega)]
    unfold spec_inRange.f
    by_cases h1 : (p.size : Int) - 1 ≤ n
    · rw [if_pos h1, bsome]
      by_cases h2 : n ≤ 20
      · rw [decide_eq_true h2, if_pos ⟨rfl, by omega, by omega⟩]
        simp only [spec_BlindOf.j0, Bool.not_true, Bool.false_eq_true, if_false]
        obtain ⟨m, rfl⟩ := Int.eq_ofNat_of_zero_le (show 0 ≤ n by omega)
        have := specB_l0 hp m (by omega) (by omega) m 0 k [] rfl (by omega) (by simp; omega) (by omega)
        rw [show ((0 : Nat) : Int) = 0 by rfl, List.nil_append] at this
        rw [this, Int.toNat_natCast]
      · rw [decide_eq_false h2, if_neg (fun h => h2 h.2.2)]
        simp only [spec_BlindOf.j0, Bool.not_false, if_true]
    · rw [if_neg h1, bsome, if_neg (fun h => h1 h.2.1)]
      simp only [spec_BlindOf.j0, Bool.not_false, if_true]
theorem b1_len (P : Nat → Bool) (n a : Nat) : ∀ d, (b1 P n a d).length ≤ d
  | 0 => by simp [b1]
  | d + 1 => by
    have := b1_len P n a d
    rw [b1, List.length_append]
    split <;> simp <;> omega
theorem b0_len (P : Nat → Bool) (n : Nat) : ∀ d, (b0 P n d).length ≤ d * d
  | 0 => by simp [b0]
  | d + 1 => by
    have h1 := b0_len P n d
    have h2 := b1_len P n (n - (d + 1)) d
    rw [b0, List.length_append, Nat.succ_mul, Nat.mul_succ]
    omega
theorem bB_len (p : ByteArray) (n : Int) : (bB p n).length ≤ 400 := by
  unfold bB
  split
  · rename_i h
    have := b0_len (W p) n.toNat n.toNat
    have : n.toNat * n.toNat ≤ 20 * 20 := Nat.mul_le_mul (by omega) (by omega)
    omega
  · simp

theorem eqInts_l0 (a : List Int) (hn : a.length ≤ 1000000) : ∀ (d j k : Nat), a.length - j = d → j ≤ a.length → d < k → laws_equalInts.l0 k a a (j : Int) = some true := by
  intro d
  induction d with
  | zero =>
    intro j k hd hj hk
    obtain ⟨k, rfl⟩ : ∃ m, k = m + 1 := ⟨k - 1, by omega⟩
    simp only [laws_equalInts.l0]
    rw [if_neg (by omega)]
  | succ d ih =>
    intro j k hd hj hk
    obtain ⟨k, rfl⟩ : ∃ m, k = m + 1 := ⟨k - 1, by omega⟩
    simp only [laws_equalInts.l0]
    rw [if_pos (by omega), if_pos (by omega), if_pos (by omega), if_pos trivial, w64s (by omega)]
    exact ih (j + 1) k (by omega) (by omega) (by omega)
theorem eqInts_self (a : List Int) (hn : a.length ≤ 1000000) (k : Nat) (hk : a.length < k) : laws_equalInts.f k a a = some true := by
  unfold laws_equalInts.f
  rw [if_pos rfl]
  exact eqInts_l0 a hn a.length 0 k rfl (by omega) hk
theorem rdL_nat (l : List (List Int)) (j : Nat) (h : j < l.length) : rd_L2 l (j : Int) = l[j] := by
  unfold rd_L2
  rw [Int.toNat_natCast, List.getD_eq_getElem?_getD, List.getElem?_eq_getElem h]
  rfl
theorem eqLists_l0 (l : List (List Int)) (hn : l.length ≤ 1000000) (hs : ∀ x ∈ l, x.length ≤ 100) : ∀ (d j k : Nat), l.length - j = d → j ≤ l.length → d + 200 < k → laws_equalLists.l0 k l l (j : Int) = some true := by
  intro d
  induction d with
  | zero =>
    intro j k hd hj hk
    obtain ⟨k, rfl⟩ : ∃ m, k = m + 1 := ⟨k - 1, by omega⟩
    simp only [laws_equalLists.l0]
    rw [if_neg (by omega)]
  | succ d ih =>
    intro j k hd hj hk
    obtain ⟨k, rfl⟩ : ∃ m, k = m + 1 := ⟨k - 1, by omega⟩
    simp only [laws_equalLists.l0]
    have hm := hs l[j] (List.getElem_mem (by omega))
    rw [if_pos (by omega), if_pos (by omega), if_pos (by omega), rdL_nat l j (by omega), eqInts_self _ (by omega) _ (by omega), bsome, if_pos rfl, w64s (by omega)]
    exact ih (j + 1) k (by omega) (by omega) (by omega)
theorem eqLists_some (l : List (List Int)) (hn : l.length ≤ 1000000) (hs : ∀ x ∈ l, x.length ≤ 100) (k : Nat) (hk : l.length + 200 < k) : laws_equalLists.f k l l = some true := by
  unfold laws_equalLists.f
  rw [if_pos rfl]
  exact eqLists_l0 l hn hs l.length 0 k rfl (by omega) hk
theorem b1_two (P : Nat → Bool) (n a : Nat) : ∀ d, ∀ x ∈ b1 P n a d, x.length ≤ 100
  | 0, x, hx => by simp [b1] at hx
  | d + 1, x, hx => by
    rw [b1] at hx
    rcases List.mem_append.1 hx with h | h
    · split at h
      · rw [List.mem_singleton.1 h]; simp
      · cases h
    · exact b1_two P n a d x h
theorem b0_two (P : Nat → Bool) (n : Nat) : ∀ d, ∀ x ∈ b0 P n d, x.length ≤ 100
  | 0, x, hx => by simp [b0] at hx
  | d + 1, x, hx => by
    rw [b0] at hx
    rcases List.mem_append.1 hx with h | h
    · exact b1_two P n _ d x h
    · exact b0_two P n d x h
theorem bB_two (p : ByteArray) (n : Int) : ∀ x ∈ bB p n, x.length ≤ 100 := by
  intro x hx
  unfold bB at hx
  split at hx
  · exact b0_two _ _ _ x hx
  · cases hx
theorem lawB_l1 (P : Nat → Bool) (n c : Nat) (hn : n ≤ 20) (hc1 : 1 ≤ c) (hc : c ≤ 256) (hP : ∀ d, 1 ≤ d → (P d = true ↔ d % c = 0)) (L : List (List Int)) (hL : L.length ≤ 400) (a d' : Nat) (ha : n - (a + 1) = d') (hal : a < n) (rest : List (List Int))
    (next : ∀ (k i : Nat), L.drop i = rest → i ≤ L.length → 100 * d' + 500 ≤ k → laws_FnBlindOf.l0 k (n : Int) L (c : Int) (i : Int) ((a + 1 : Nat) : Int) = some true) :
    ∀ (e b k i : Nat), n - b = e → a < b → b ≤ n → L.drop i = b1 P n a e ++ rest → i ≤ L.length → 100 * d' + 550 + e ≤ k →
      laws_FnBlindOf.l1 k (n : Int) L (c : Int) (i : Int) (a : Int) (b : Int) = some true := by
  intro e
  induction e with
  | zero =>
    intro b k i he hab hb hd hi hk
    obtain ⟨k, rfl⟩ : ∃ m, k = m + 1 := ⟨k - 1, by omega⟩
    simp only [laws_FnBlindOf.l1]
    rw [if_neg (by omega), w64s (by omega)]
    exact next k i (by rw [hd]; rfl) hi (by omega)
  | succ e ih =>
    intro b k i he hab hb hd hi hk
    obtain ⟨k, rfl⟩ : ∃ m, k = m + 1 := ⟨k - 1, by omega⟩
    simp only [laws_FnBlindOf.l1]
    have q1 : wrap64 ((b : Int) - (a : Int)) = ((b - a : Nat) : Int) := by rw [w64 (by omega) (by omega)]; omega
    have q2 : Int.tmod ((b - a : Nat) : Int) (c : Int) = (((b - a) % c : Nat) : Int) := by rw [Int.tmod_eq_emod_of_nonneg (by omega)]; exact (Int.natCast_emod _ _).symm
    have hb1 : b1 P n a (e + 1) = (if P (b - a) = true then [[(a : Int), (b : Int)]] else []) ++ b1 P n a e := by rw [b1, show n - (e + 1) = b by omega]
    rw [hb1] at hd
    rw [if_pos (by omega), if_neg (by omega), q1, q2, w64s (by omega)]
    by_cases hw : P (b - a) = true
    · have h0 := (hP (b - a) (by omega)).1 hw
      rw [if_pos hw] at hd
      have hil : i < L.length := by
        rcases Nat.lt_or_ge i L.length with h | h
        · exact h
        · rw [List.drop_eq_nil_of_le h] at hd; simp at hd
      rw [List.drop_eq_getElem_cons hil] at hd
      simp only [List.cons_append, List.nil_append, List.cons.injEq] at hd
      rw [if_pos (by omega), if_neg (by omega), if_pos (by omega), if_pos (by omega), rdL_nat L i hil, hd.1, eqInts_self _ (by simp) _ (by simp; omega), bsome, if_pos rfl, w64s (by omega)]
      exact ih (b + 1) k (i + 1) (by omega) (by omega) (by omega) hd.2 (by omega) (by omega)
    · have h0 : ¬ (b - a) % c = 0 := fun h => hw ((hP (b - a) (by omega)).2 h)
      rw [if_neg hw, List.nil_append] at hd
      rw [if_neg (by omega), w64s (by omega)]
      exact ih (b + 1) k i (by omega) (by omega) (by omega) hd hi (by omega)
theorem lawB_l0 (P : Nat → Bool) (n c : Nat) (hn : n ≤ 20) (hc1 : 1 ≤ c) (hc : c ≤ 256) (hP : ∀ d, 1 ≤ d → (P d = true ↔ d % c = 0)) (L : List (List Int)) (hL : L.length ≤ 400) :
    ∀ (d a k i : Nat), n - a = d → a ≤ n → L.drop i = b0 P n d → i ≤ L.length → 100 * d + 500 ≤ k → laws_FnBlindOf.l0 k (n : Int) L (c : Int) (i : Int) (a : Int) = some true := by
  intro d
  induction d with
  | zero =>
    intro a k i hd ha hdr hi hk
    obtain ⟨k, rfl⟩ : ∃ m, k = m + 1 := ⟨k - 1, by omega⟩
    simp only [laws_FnBlindOf.l0]
    have : L.length ≤ i := List.drop_eq_nil_iff.1 hdr
    rw [if_neg (by omega), show i = L.length by omega]
    simp
  | succ d ih =>
    intro a k i hd ha hdr hi hk
    obtain ⟨k, rfl⟩ : ∃ m, k = m + 1 := ⟨k - 1, by omega⟩
    simp only [laws_FnBlindOf.l0]
    rw [if_pos (by omega), w64s (by omega)]
    rw [b0, show n - (d + 1) = a by omega] at hdr
    exact lawB_l1 P n c hn hc1 hc hP L hL a d (by omega) (by omega) (b0 P n d) (fun k i h1 h2 h3 => ih (a + 1) k i (by omega) (by omega) h1 h2 h3) d (a + 1) k i (by omega) (by omega) (by omega) hdr hi (by omega)
theorem FnBlindOf : laws_FnBlindOf.Pure := by
  intro l _ _ hw
  refine ⟨6001, ?_⟩
  unfold laws_FnBlindOf.f
  split
  · rfl
  · obtain ⟨b, hb, hR⟩ := newReader_some l hw
    obtain ⟨p, q, h1, h2, hR1⟩ := aPoly_some hR (by omega) 6001 (by omega)
    obtain ⟨n, hn, hm, _⟩ := one_some hR1 (by omega) ([8, 10, 12, 15, 20, 4, 21, 0] : List Int) (by simp) (by simp)
    have hn2 : 0 ≤ n ∧ n ≤ 21 := by
      simp only [List.mem_cons, List.not_mem_nil, or_false] at hm
      omega
    unfold spec_DrawBlindOf.f
    rw [hb, bsome]
    simp only []
    rw [h1, bsome]
    simp only []
    rw [hn _ (by omega), bsome, bsome]
    simp only []
    have hlen := bB_len p n
    rw [implB_some p (by omega) n _ (by omega), bsome, specB_some p (by omega) n _ (by omega), bsome, eqLists_some _ (by omega) (bB_two p n) _ (by omega), bsome, if_pos rfl, implPoly_some p (by omega), bsome]
    have hend : laws_FnBlindOf.j0 6001 p n (bB p n) true = some true := by
      rw [show (6001 : Nat) = 6000 + 1 by rfl]
      simp only [laws_FnBlindOf.j0, if_true]
      rw [specB_some p (by omega) n _ (by omega), bsome, eqLists_some _ (by omega) (bB_two p n) _ (by omega), bsome]
    cases hp : okPoly p with
    | false => rw [if_neg (by simp)]; exact hend
    | true =>
      have hz := okPoly_size hp
      rw [if_pos rfl, w64 (by omega) (by omega)]
      by_cases h3 : n < (p.size : Int) - 1
      · rw [if_pos h3]; exact hend
      · rw [if_neg h3]
        by_cases h4 : n > 20
        · rw [decide_eq_true h4]; exact hend
        · rw [decide_eq_false h4, show (6001 : Nat) = 6000 + 1 by rfl]
          simp only [laws_FnBlindOf.j0, Bool.false_eq_true, if_false]
          obtain ⟨c, g1, _, g3⟩ := cyc_some p (by omega)
          obtain ⟨m, rfl, m1, m2, m3, m4, m5⟩ := g3 hp
          rw [(g1 6000 (by omega)).1, bsome]
          obtain ⟨n', rfl⟩ := Int.eq_ofNat_of_zero_le hn2.1
          have hP : ∀ d, 1 ≤ d → (W p d = true ↔ d % m = 0) := by
            intro d hd
            rw [W_iff, Crc.apart_iff hd]
            exact Crc.cycle_iff m1 ((Crc.apart_iff m1).1 ((W_iff p m).1 m4)) (fun j j1 j2 e => by
              have := m5 j j1 j2
              rw [(W_iff p j).2 ((Crc.apart_iff j1).2 e)] at this
              cases this) d
          have hB : bB p (n' : Int) = b0 (W p) n' n' := by
            unfold bB
            rw [if_pos ⟨hp, by omega, by omega⟩, Int.toNat_natCast]
          exact lawB_l0 (W p) n' m (by omega) m1 m2 hP (bB p (n' : Int)) hlen n' 0 6000 0 (by omega) (by omega) (by rw [List.drop_zero, hB]) (by omega) (by omega)

end Go.Proofs.YtmkcmkkpeimldaaDoor.Pure
