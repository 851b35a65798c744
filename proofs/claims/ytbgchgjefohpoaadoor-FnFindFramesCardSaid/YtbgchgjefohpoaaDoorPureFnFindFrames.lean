/- The pure part of FnFindFrames: the Lean function of the law answers true for every argument. -/
import Derived.Test.YtbgchgjefohpoaaDoorPx1
import Derived.Test.YtbgchgjefohpoaaDoorPx10
import Derived.Test.YtbgchgjefohpoaaDoorPx12
import Derived.Test.YtbgchgjefohpoaaDoorPx14
import Derived.Test.YtbgchgjefohpoaaDoorPx15
import Derived.Test.YtbgchgjefohpoaaDoorPx16
import Derived.Test.YtbgchgjefohpoaaDoorPx2
import Derived.Test.YtbgchgjefohpoaaDoorPx20
import Derived.Test.YtbgchgjefohpoaaDoorPx21
import Derived.Test.YtbgchgjefohpoaaDoorPx22
import Derived.Test.YtbgchgjefohpoaaDoorPx23
import Derived.Test.YtbgchgjefohpoaaDoorPx26
import Derived.Test.YtbgchgjefohpoaaDoorPx29
import Derived.Test.YtbgchgjefohpoaaDoorPx3
import Derived.Test.YtbgchgjefohpoaaDoorPx30
import Derived.Test.YtbgchgjefohpoaaDoorPx32
import Derived.Test.YtbgchgjefohpoaaDoorPx33
import Derived.Test.YtbgchgjefohpoaaDoorPx5
import Derived.Test.YtbgchgjefohpoaaDoorPx6
import Derived.Test.YtbgchgjefohpoaaDoorPx7
import Derived.Test.YtbgchgjefohpoaaDoorPx9
namespace Go.Proofs.YtbgchgjefohpoaaDoor.Pure
open Go.RowKit Go.Proofs.YtbgchgjefohpoaaDoor.P Go.Proofs.YtbgchgjefohpoaaDoorW.PrintWords Go.Proofs.YtbgchgjefohpoaaDoorW.PrintLast
set_option linter.unusedVariables false
set_option linter.unusedSimpArgs false

/-! The reader of the drawn arguments: what is picked lies in its range, whatever the code. -/

theorem w64 {n : Int} (h0 : -9223372036854775808 ≤ n) (h1 : n ≤ 9223372036854775807) : wrap64 n = n := by unfold wrap64; omega

theorem xor_nonneg {a b : Int} (ha : 0 ≤ a) (ha' : a < 9223372036854775808) (hb : 0 ≤ b) (hb' : b < 9223372036854775808) : 0 ≤ Go.bits .xor .i64 a b := by
  obtain ⟨x, rfl⟩ := Int.eq_ofNat_of_zero_le ha
  obtain ⟨y, rfl⟩ := Int.eq_ofNat_of_zero_le hb
  have h1 : x ^^^ y < 2 ^ 63 := Nat.xor_lt_two_pow (by omega) (by omega)
  have hx : x % 2 ^ IntKind.i64.bits = x := Nat.mod_eq_of_lt (by simp [IntKind.bits]; omega)
  have hy : y % 2 ^ IntKind.i64.bits = y := Nat.mod_eq_of_lt (by simp [IntKind.bits]; omega)
  simp only [Go.bits, BitVec.ofInt_natCast, BitVec.toNat_xor, BitVec.toNat_ofNat, hx, hy]
  generalize x ^^^ y = z at *
  have e : (↑z : Int) % 2 ^ 64 = z := Int.emod_eq_of_lt (by omega) (by omega)
  simp only [IntKind.wrap, IntKind.bits, IntKind.signed, e]
  rw [if_neg (by simp; omega)]
  omega

/-- A reader's state: bytes, few, and a place. -/
structure RS (b : List Int) (p n : Int) : Prop where
  (len : b.length ≤ 2000) (byte : ∀ x ∈ b, 0 ≤ x ∧ x ≤ 255) (p0 : 0 ≤ p) (pn : p ≤ n)

theorem RS.le {b : List Int} {p n m : Int} (h : RS b p n) (hm : n ≤ m) : RS b p m := ⟨h.len, h.byte, h.p0, Int.le_trans h.pn hm⟩

theorem rd_mem {b : List Int} {i : Int} (h0 : 0 ≤ i) (h1 : i < b.length) : rd b i ∈ b := by
  unfold rd
  rw [List.getD_eq_getElem?_getD, List.getElem?_eq_getElem (by omega)]
  exact List.getElem_mem _

theorem rd_byte {b : List Int} (h : ∀ x ∈ b, 0 ≤ x ∧ x ≤ 255) (i : Int) : 0 ≤ rd b i ∧ rd b i ≤ 255 := by
  by_cases hi : i.toNat < b.length
  · unfold rd
    rw [List.getD_eq_getElem?_getD, List.getElem?_eq_getElem hi]
    exact h _ (List.getElem_mem _)
  · unfold rd
    rw [List.getD_eq_getElem?_getD, List.getElem?_eq_none (by omega)]
    simp

theorem newReader_some (l : List Int) (h : ∀ x ∈ l, (Lit.int .u8 x).wf = true) : ∃ b, spec_newReader.f l = some (b, 0) ∧ RS b 0 0 := by
  have hb : ∀ x ∈ l, 0 ≤ x ∧ x ≤ 255 := by
    intro x hx
    have := h x hx
    simp [Lit.wf, IntKind.min, IntKind.max, IntKind.signed, IntKind.bits] at this
    omega
  unfold spec_newReader.f
  split
  · rw [if_pos (by omega)]
    exact ⟨_, rfl, by simp; omega, fun x hx => hb x (List.mem_of_mem_take hx), by omega, by omega⟩
  · exact ⟨_, rfl, by omega, hb, by omega, by omega⟩

/-- A number picked: in its range. -/
theorem pick_some {b : List Int} {p n : Int} (h : RS b p n) (hn : n ≤ 1000000000) (m : Int) (hm : m ≤ 1000000000000) : ∃ r, (∀ k, 1 ≤ k → spec_reader_pick.f k b p m = some (r, p + 1)) ∧ 0 ≤ r ∧ (1 ≤ m → r < m) ∧ RS b (p + 1) (n + 1) := by
  have p0 := h.p0; have pn := h.pn; have hl := h.len
  have hR : RS b (p + 1) (n + 1) := ⟨hl, h.byte, by omega, by omega⟩
  have e1 : wrap64 (p + 1) = p + 1 := w64 (by omega) (by omega)
  have e2 : wrap64 (p + 1 - 1) = p := by rw [w64 (by omega) (by omega)]; omega
  by_cases hz : m < 1
  · refine ⟨0, fun k hk => ?_, by omega, by omega, hR⟩
    obtain ⟨k, rfl⟩ : ∃ j, k = j + 1 := ⟨k - 1, by omega⟩
    unfold spec_reader_pick.f
    rw [if_pos hz, e1]
    simp only [spec_reader_pick.j0, if_true]
  · by_cases hb : (b.length : Int) = 0
    · refine ⟨0, fun k hk => ?_, by omega, by omega, hR⟩
      obtain ⟨k, rfl⟩ : ∃ j, k = j + 1 := ⟨k - 1, by omega⟩
      unfold spec_reader_pick.f
      rw [if_neg hz, e1]
      have : ((b.length : Int) == 0) = true := by simpa using hb
      rw [this]
      simp only [spec_reader_pick.j0, if_true]
    · have hb' : ((b.length : Int) == 0) = false := by simpa using hb
      by_cases hlt : p < (b.length : Int)
      · obtain ⟨x0, x1⟩ := rd_byte h.byte p
        refine ⟨Int.tmod (rd b p) m, fun k hk => ?_, ?_, ?_, hR⟩
        · obtain ⟨k, rfl⟩ : ∃ j, k = j + 1 := ⟨k - 1, by omega⟩
          unfold spec_reader_pick.f
          rw [if_neg hz, e1, hb']
          simp only [spec_reader_pick.j0, Bool.false_eq_true, if_false, e2]
          rw [if_pos hlt, if_pos p0, if_neg (by omega), w64 (n := rd b p) (by omega) (by omega)]
        · exact Int.tmod_nonneg _ x0
        · intro _; exact Int.tmod_lt_of_pos _ (by omega)
      · have q0 : 0 ≤ Int.tmod p (b.length : Int) := Int.tmod_nonneg _ p0
        have q1 : Int.tmod p (b.length : Int) < b.length := Int.tmod_lt_of_pos _ (by omega)
        have e3 : wrap64 (p * 7) = p * 7 := w64 (by omega) (by omega)
        have e4 : wrap64 (p * 7 + 3) = p * 7 + 3 := w64 (by omega) (by omega)
        have s0 : 0 ≤ Int.tmod (p * 7 + 3) (b.length : Int) := Int.tmod_nonneg _ (by omega)
        have s1 : Int.tmod (p * 7 + 3) (b.length : Int) < b.length := Int.tmod_lt_of_pos _ (by omega)
        obtain ⟨x0, x1⟩ := rd_byte h.byte (Int.tmod p (b.length : Int))
        obtain ⟨y0, y1⟩ := rd_byte h.byte (Int.tmod (p * 7 + 3) (b.length : Int))
        have d0 : 0 ≤ Int.tdiv p (b.length : Int) := Int.tdiv_nonneg p0 (by omega)
        have d1 : Int.tdiv p (b.length : Int) ≤ p := by
          rw [Int.tdiv_eq_ediv_of_nonneg p0]
          exact Int.ediv_le_self _ p0
        generalize hxe : rd b (Int.tmod p (b.length : Int)) = x at *
        generalize hye : rd b (Int.tmod (p * 7 + 3) (b.length : Int)) = y at *
        generalize hde : Int.tdiv p (b.length : Int) = d at *
        have t0 : 0 ≤ Int.tdiv (x * 131 + y * 1117 + p * 29 + d * 53) 64 := Int.tdiv_nonneg (by omega) (by omega)
        have t1 : Int.tdiv (x * 131 + y * 1117 + p * 29 + d * 53) 64 ≤ x * 131 + y * 1117 + p * 29 + d * 53 := by
          rw [Int.tdiv_eq_ediv_of_nonneg (by omega)]
          exact Int.ediv_le_self _ (by omega)
        have hx := xor_nonneg (a := x * 131 + y * 1117 + p * 29 + d * 53) (b := Int.tdiv (x * 131 + y * 1117 + p * 29 + d * 53) 64) (by omega) (by omega) t0 (by omega)
        refine ⟨Int.tmod (Go.bits .xor .i64 (x * 131 + y * 1117 + p * 29 + d * 53) (Int.tdiv (x * 131 + y * 1117 + p * 29 + d * 53) 64)) m, fun k hk => ?_, Int.tmod_nonneg _ hx, fun _ => Int.tmod_lt_of_pos _ (by omega), hR⟩
        obtain ⟨k, rfl⟩ : ∃ j, k = j + 1 := ⟨k - 1, by omega⟩
        unfold spec_reader_pick.f
        rw [if_neg hz, e1, hb']
        simp only [spec_reader_pick.j0, Bool.false_eq_true, if_false, e2]
        rw [if_neg hlt, if_neg hb, if_pos q0, if_pos q1, e3, e4, if_pos s0, if_pos s1, if_neg (by omega)]
        rw [hxe, hye, hde, w64 (n := x) (by omega) (by omega), w64 (n := y) (by omega) (by omega), w64 (n := x * 131) (by omega) (by omega), w64 (n := y * 1117) (by omega) (by omega),
          w64 (n := x * 131 + y * 1117) (by omega) (by omega), w64 (n := p * 29) (by omega) (by omega), w64 (n := x * 131 + y * 1117 + p * 29) (by omega) (by omega),
          w64 (n := d) (by omega) (by omega), w64 (n := d * 53) (by omega) (by omega), w64 (n := x * 131 + y * 1117 + p * 29 + d * 53) (by omega) (by omega),
          w64 (n := Int.tdiv (x * 131 + y * 1117 + p * 29 + d * 53) 64) (by omega) (by omega)]

/-- One of some numbers, picked. -/
theorem one_some {b : List Int} {p n : Int} (h : RS b p n) (hn : n ≤ 1000000000) (l : List Int) (hl : 1 ≤ l.length) (hm : l.length ≤ 1000000) : ∃ r, (∀ k, 1 ≤ k → spec_reader_one.f k b p l = some (r, p + 1)) ∧ r ∈ l ∧ RS b (p + 1) (n + 1) := by
  obtain ⟨r, hr, r0, r1, hR⟩ := pick_some h hn (l.length : Int) (by omega)
  refine ⟨rd l r, fun k hk => ?_, rd_mem r0 (r1 (by omega)), hR⟩
  unfold spec_reader_one.f
  rw [hr k hk]
  simp only [Option.bind_some]
  rw [if_pos r0, if_pos (r1 (by omega))]

/-! Lists of numbers: held against each other, and bytes. -/

theorem rd_nat (l : List Int) (j : Nat) (h : j < l.length) : rd l (j : Int) = l[j] := by
  unfold rd; rw [Int.toNat_natCast, List.getD_eq_getElem?_getD, List.getElem?_eq_getElem h]; rfl

theorem w64s {j : Nat} (h : j ≤ 1000000000000) : wrap64 ((j : Int) + 1) = ((j + 1 : Nat) : Int) := by rw [w64 (by omega) (by omega)]; omega

/-- Not by unfolding: the kernel then has nothing to count. -/
theorem bsome {α β : Type} (a : α) (f : α → Option β) : (some a).bind f = f a := by
  cases h : (some a).bind f <;> simp_all

def inB (x : Int) : Bool := decide (0 ≤ x) && decide (x ≤ 255)

/-! Strings as the lists of their bytes. -/
def bl (s : ByteArray) : List Int := s.data.toList.map fun b => (b.toNat : Int)
theorem bl_len (s : ByteArray) : (bl s).length = s.size := by unfold bl; rw [List.length_map]; rfl
theorem bt_nat (s : ByteArray) (j : Nat) (h : j < s.size) : bt s (j : Int) = (bl s)[j]'(by rw [bl_len]; exact h) := by
  unfold bt bl
  rw [dif_pos (by simpa using h)]
  simp [ByteArray.getElem_eq_getElem_data]
theorem bl_byte (s : ByteArray) : ∀ x ∈ bl s, 0 ≤ x ∧ x ≤ 255 := by
  intro x hx
  obtain ⟨b, _, rfl⟩ := List.mem_map.1 hx
  have := b.toNat_lt
  omega
theorem bl_append (a b : ByteArray) : bl (a ++ b) = bl a ++ bl b := by simp [bl, ByteArray.data_append]
theorem bl_inj {a b : ByteArray} (h : bl a = bl b) : a = b := by
  have : a.data.toList = b.data.toList := by
    unfold bl at h
    exact (List.map_inj_right (fun x y e => UInt8.toNat_inj.1 (Int.ofNat.inj e))).1 h
  have h2 : a.data = b.data := Array.toList_inj.1 this
  cases a; cases b; simp_all
theorem bl_drop (s : ByteArray) (j : Nat) (h : j < s.size) : (bl s).drop j = bt s (j : Int) :: (bl s).drop (j + 1) := by
  rw [bt_nat s j h, List.drop_eq_getElem_cons (by rw [bl_len]; exact h)]

theorem dropWhile_all {α : Type} (p : α → Bool) : ∀ l : List α, l.all p = true → l.dropWhile p = []
  | [], _ => rfl
  | a :: l, h => by
    simp only [List.all_cons, Bool.and_eq_true] at h
    rw [List.dropWhile_cons, if_pos h.1]
    exact dropWhile_all p l h.2
theorem dropWhile_some {α : Type} (p : α → Bool) : ∀ l : List α, (∃ x ∈ l, p x = false) → ∃ x ∈ l.dropWhile p, p x = false
  | [], h => by obtain ⟨x, hx, _⟩ := h; cases hx
  | a :: l, h => by
    rw [List.dropWhile_cons]
    cases ha : p a with
    | true =>
      rw [if_pos rfl]
      refine dropWhile_some p l ?_
      obtain ⟨x, hx, hp⟩ := h
      rcases List.mem_cons.1 hx with rfl | hx
      · rw [ha] at hp; cases hp
      · exact ⟨x, hx, hp⟩
    | false => exact ⟨a, by simp, ha⟩
theorem trim_empty (l cs : List UInt8) : (Lib.trimS l cs != []) = !(l.all (cs.contains ·)) := by
  cases h : l.all (cs.contains ·) with
  | true =>
    have h2 : l.reverse.all (cs.contains ·) = true := by simpa using h
    unfold Lib.trimS Lib.trimRightS Lib.trimLeftS
    rw [dropWhile_all _ _ h2]
    rfl
  | false =>
    have h2 : ∃ x ∈ l.reverse, (fun x => cs.contains x) x = false := by
      have := List.all_eq_false.1 h
      obtain ⟨x, hx, hp⟩ := this
      exact ⟨x, by simpa using hx, by simpa using hp⟩
    obtain ⟨x, hx, hp⟩ := dropWhile_some _ _ h2
    obtain ⟨y, hy, _⟩ := dropWhile_some (fun x => cs.contains x) (Lib.trimRightS l cs) ⟨x, by simpa [Lib.trimRightS] using hx, hp⟩
    have hne : Lib.trimS l cs ≠ [] := by
      intro e
      unfold Lib.trimS Lib.trimLeftS at e
      rw [e] at hy
      cases hy
    simpa using hne
/-- Trim leaves nothing just where all bytes are of the set. -/
theorem Trim_some (s c : ByteArray) (hs : s.size ≤ 9223372036854775807) (hc : c.size < 4294967281) (ha : c.data.toList.all (fun b => decide (b.toNat < 128)) = true) :
    ∃ t, strings_Trim.f s c = some t ∧ (t.toList != ([] : List UInt8)) = !((bl s).all ((bl c).contains ·)) := by
  refine ⟨_, by unfold strings_Trim.f; rw [if_pos ⟨hs, hc, ha⟩], ?_⟩
  rw [ByteArray.toList_eq]
  show (Lib.trimS s.data.toList c.data.toList != []) = _
  rw [trim_empty]
  congr 1
  simp only [bl, List.all_map]
  congr 1
  funext x
  simp only [Function.comp]
  rw [Bool.eq_iff_iff]
  simp only [List.contains_iff_mem, List.mem_map]
  constructor
  · intro h; exact ⟨x, h, rfl⟩
  · rintro ⟨y, hy, e⟩
    have : y = x := UInt8.toNat_inj.1 (Int.ofNat.inj e)
    exact this ▸ hy

/-! Strings made of lists. -/
def tb (l : List Int) : ByteArray := ⟨(l.map fun x => UInt8.ofNat x.toNat).toArray⟩
theorem tb_bl (s : ByteArray) : tb (bl s) = s := by
  have : (bl s).map (fun x => UInt8.ofNat x.toNat) = s.data.toList := by
    unfold bl
    rw [List.map_map]
    conv => rhs; rw [← List.map_id s.data.toList]
    refine List.map_congr_left fun b _ => ?_
    simp
  unfold tb
  rw [this]
theorem bl_tb (l : List Int) (h : ∀ x ∈ l, 0 ≤ x ∧ x ≤ 255) : bl (tb l) = l := by
  unfold bl tb
  simp only [List.map_map]
  conv => rhs; rw [← List.map_id l]
  refine List.map_congr_left fun x hx => ?_
  have := h x hx
  simp only [Function.comp, UInt8.toNat_ofNat', id]
  omega
theorem tb_append (a b : List Int) : tb (a ++ b) = tb a ++ tb b := by
  have : (tb (a ++ b)).data = (tb a ++ tb b).data := by simp [tb, ByteArray.data_append]
  exact ByteArray.ext this
theorem tb_len (l : List Int) : (tb l).size = l.length := by simp [tb, ByteArray.size]
theorem app_nil (s : ByteArray) : s ++ tb [] = s := by
  have : (s ++ tb []).data = s.data := by simp [tb, ByteArray.data_append]
  exact ByteArray.ext this
theorem nil_app (s : ByteArray) : tb [] ++ s = s := by
  have : (tb [] ++ s).data = s.data := by simp [tb, ByteArray.data_append]
  exact ByteArray.ext this
theorem app_assoc (a b c : ByteArray) : a ++ b ++ c = a ++ (b ++ c) := by
  have : (a ++ b ++ c).data = (a ++ (b ++ c)).data := by simp [ByteArray.data_append]
  exact ByteArray.ext this
theorem bl_extract (s : ByteArray) (i j : Nat) : bl (s.extract i j) = ((bl s).drop i).take (j - i) := by
  unfold bl
  rw [ByteArray.data_extract, Array.toList_extract, List.extract_eq_take_drop, List.map_take, List.map_drop]
theorem extract_one (s : ByteArray) (j : Nat) (h : j < s.size) : s.extract j (j + 1) = tb [bt s (j : Int)] := by
  apply bl_inj
  have hb := bl_byte s (bt s (j : Int)) (by rw [bt_nat s j h]; exact List.getElem_mem _)
  rw [bl_extract, bl_tb _ (by simpa using hb), bl_drop s j h, show j + 1 - j = 1 by omega]
  rfl
theorem toList_eq_iff (a b : ByteArray) : a.toList = b.toList ↔ a = b := by
  rw [ByteArray.toList_eq, ByteArray.toList_eq]
  constructor
  · intro h
    exact ByteArray.ext (Array.toList_inj.1 h)
  · rintro rfl; rfl
theorem toList_nil_iff (a : ByteArray) : a.toList = ([] : List UInt8) ↔ a.size = 0 := by
  rw [ByteArray.toList_eq]
  show a.data.toList = [] ↔ a.data.size = 0
  rw [← Array.length_toList]
  exact List.length_eq_zero_iff.symm
def isBit (c : Int) : Bool := c == 48 || c == 49
theorem isBit_iff (c : Int) : isBit c = true ↔ c = 48 ∨ c = 49 := by simp [isBit]

/-! Bits: which strings are bits, stuffed and unstuffed. -/
def okBits (s : ByteArray) : Bool := (bl s).all isBit
theorem validBits_l0 (s : ByteArray) (hs : s.size ≤ 1000000000) : ∀ (d j k : Nat), s.size - j = d → j ≤ s.size → d < k → spec_validBits.l0 k s (j : Int) = some (((bl s).drop j).all isBit && decide (s.size ≤ 40)) := by
  intro d
  induction d with
  | zero =>
    intro j k hd hj hk
    obtain ⟨k, rfl⟩ : ∃ m, k = m + 1 := ⟨k - 1, by omega⟩
    simp only [spec_validBits.l0]
    rw [if_neg (by omega), List.drop_eq_nil_of_le (by rw [bl_len]; omega)]
    simp only [List.all_nil, Bool.true_and, Option.some.injEq, decide_eq_decide]
    omega
  | succ d ih =>
    intro j k hd hj hk
    obtain ⟨k, rfl⟩ : ∃ m, k = m + 1 := ⟨k - 1, by omega⟩
    simp only [spec_validBits.l0]
    rw [if_pos (by omega), if_pos (by omega), w64s (by omega), ih (j + 1) k (by omega) (by omega) (by omega), bl_drop s j (by omega), List.all_cons]
    generalize bt s (j : Int) = c
    by_cases h1 : c = 48
    · rw [if_pos h1]; simp [isBit, h1]
    · rw [if_neg h1]
      by_cases h2 : c = 49
      · rw [if_pos h2]; simp [isBit, h2]
      · rw [if_neg h2]; simp [isBit, h1, h2]
theorem validBits_some (s : ByteArray) (hs : s.size ≤ 1000000000) (k : Nat) (hk : s.size < k) : spec_validBits.f k s = some (okBits s && decide (s.size ≤ 40)) := by
  unfold spec_validBits.f okBits
  have := validBits_l0 s hs s.size 0 k (by omega) (by omega) hk
  simpa using this
theorem bitsAlone_some (s : ByteArray) (hs : s.size ≤ 1000000000) : impl_bitsAlone.f s = some (okBits s) := by
  unfold impl_bitsAlone.f
  obtain ⟨t, ht, he⟩ := Trim_some s (⟨#[48, 49]⟩ : ByteArray) (by omega) (by decide) (by decide)
  rw [ht, bsome]
  have hall : (bl s).all ((bl (⟨#[48, 49]⟩ : ByteArray)).contains ·) = okBits s := by
    unfold okBits
    congr 1
    funext x
    show List.contains [48, 49] x = isBit x
    simp [isBit, List.contains, List.elem]
    cases x == 48 <;> cases x == 49 <;> rfl
  rw [hall] at he
  have : (t.toList == ([] : List UInt8)) = okBits s := by
    cases h : okBits s <;> rw [h] at he <;> simpa using he
  rw [this]
theorem valid_some (s : ByteArray) (hs : s.size ≤ 1000000000) : impl_ValidBits.f s = some (okBits s && decide (s.size ≤ 40)) := by
  unfold impl_ValidBits.f
  by_cases h : (s.size : Int) ≤ 40
  · rw [if_pos h, bitsAlone_some s hs, bsome]
    simp [show s.size ≤ 40 by omega]
  · rw [if_neg h]
    simp [show ¬ s.size ≤ 40 by omega]
def stf : Int → List Int → List Int
  | _, [] => []
  | n, c :: r => if c = 49 then (if n + 1 = 5 then c :: 48 :: stf 0 r else c :: stf (n + 1) r) else c :: stf 0 r
def uim : Int → List Int → List Int
  | _, [] => []
  | n, c :: r => if n = 5 then uim 0 r else c :: uim (if c = 49 then n + 1 else 0) r
def usp : Int → List Int → Option (List Int)
  | n, [] => if n < 5 then some [] else none
  | n, c :: r => if n = 5 then (if c = 49 then none else usp 0 r) else (usp (if c = 49 then n + 1 else 0) r).map (c :: ·)
theorem stf_len : ∀ (l : List Int) (n : Int), 0 ≤ n → n ≤ 4 → ((stf n l).length : Int) ≤ l.length + (l.length + n) / 5
  | [], n, h0, h1 => by simp [stf]; omega
  | c :: r, n, h0, h1 => by
    unfold stf
    have a := stf_len r 0 (by omega) (by omega)
    split
    · split
      · simp only [List.length_cons]; omega
      · have b := stf_len r (n + 1) (by omega) (by omega)
        simp only [List.length_cons]; omega
    · simp only [List.length_cons]; omega
theorem stf_bits : ∀ (l : List Int) (n : Int), l.all isBit = true → (stf n l).all isBit = true
  | [], n, h => rfl
  | c :: r, n, h => by
    simp only [List.all_cons, Bool.and_eq_true] at h
    unfold stf
    split
    · split <;> simp only [List.all_cons, h.1, stf_bits r _ h.2, Bool.and_true, Bool.true_and]
      rfl
    · simp only [List.all_cons, h.1, stf_bits r _ h.2, Bool.and_true]
theorem stf_byte : ∀ (l : List Int) (n : Int), (∀ x ∈ l, 0 ≤ x ∧ x ≤ 255) → ∀ x ∈ stf n l, 0 ≤ x ∧ x ≤ 255
  | [], n, h => by intro x hx; cases hx
  | c :: r, n, h => by
    have a := fun m => stf_byte r m (fun x hx => h x (List.mem_cons_of_mem _ hx))
    have b := h c (List.mem_cons_self ..)
    intro x hx
    unfold stf at hx
    split at hx
    · split at hx
      · rcases List.mem_cons.1 hx with rfl | hx
        · exact b
        · rcases List.mem_cons.1 hx with rfl | hx
          · omega
          · exact a _ x hx
      · rcases List.mem_cons.1 hx with rfl | hx
        · exact b
        · exact a _ x hx
    · rcases List.mem_cons.1 hx with rfl | hx
      · exact b
      · exact a _ x hx
theorem uim_len : ∀ (l : List Int) (n : Int), (uim n l).length ≤ l.length
  | [], n => by simp [uim]
  | c :: r, n => by
    unfold uim
    split
    · have := uim_len r 0; simp only [List.length_cons]; omega
    · have := uim_len r (if c = 49 then n + 1 else 0); simp only [List.length_cons]; omega
theorem uim_bits : ∀ (l : List Int) (n : Int), l.all isBit = true → (uim n l).all isBit = true
  | [], n, h => rfl
  | c :: r, n, h => by
    simp only [List.all_cons, Bool.and_eq_true] at h
    unfold uim
    split
    · exact uim_bits r _ h.2
    · simp only [List.all_cons, h.1, uim_bits r _ h.2, Bool.and_true]
/-- Stuffed, then unstuffed. -/
theorem uim_stf : ∀ (l : List Int) (n : Int), l.all isBit = true → 0 ≤ n → n ≤ 4 → uim n (stf n l) = l
  | [], n, h, h0, h1 => by simp [stf, uim]
  | c :: r, n, h, h0, h1 => by
    simp only [List.all_cons, Bool.and_eq_true] at h
    unfold stf
    by_cases hc : c = 49
    · rw [if_pos hc]
      by_cases h5 : n + 1 = 5
      · rw [if_pos h5, uim, if_neg (by omega), if_pos hc, h5, uim, if_pos rfl, uim_stf r 0 h.2 (by omega) (by omega)]
      · rw [if_neg h5, uim, if_neg (by omega), if_pos hc, uim_stf r (n + 1) h.2 (by omega) (by omega)]
    · rw [if_neg hc, uim, if_neg (by omega), if_neg hc, uim_stf r 0 h.2 (by omega) (by omega)]
/-- Both ways to unstuff agree. -/
theorem usp_eq : ∀ (N : Nat) (l : List Int) (n : Int), l.length ≤ N → l.all isBit = true → 0 ≤ n → n ≤ 4 → usp n l = if stf n (uim n l) = l then some (uim n l) else none := by
  intro N
  induction N with
  | zero =>
    intro l n hN _ h0 h1
    have : l = [] := List.eq_nil_of_length_eq_zero (by omega)
    subst this
    simp [usp, uim, stf]; omega
  | succ N ih =>
    intro l n hN hb h0 h1
    match l, hN, hb with
    | [], _, _ => simp [usp, uim, stf]; omega
    | c :: r, hN, hb =>
      simp only [List.all_cons, Bool.and_eq_true] at hb
      simp only [List.length_cons] at hN
      have n5 : ¬ n = 5 := by omega
      rw [usp, uim, if_neg n5, if_neg n5, stf]
      by_cases hc : c = 49
      · rw [if_pos hc, if_pos hc]
        by_cases h5 : n + 1 = 5
        · rw [if_pos h5, h5]
          match r, hN, hb with
          | [], _, _ => simp [usp, uim, stf]
          | d :: q, hN, hb =>
            simp only [List.all_cons, Bool.and_eq_true] at hb
            simp only [List.length_cons] at hN
            have := ih q 0 (by omega) hb.2.2 (by omega) (by omega)
            rw [usp, if_pos rfl, uim, if_pos rfl]
            rcases (isBit_iff d).1 hb.2.1 with rfl | rfl
            · rw [if_neg (by omega), this]
              by_cases e : stf 0 (uim 0 q) = q
              · rw [if_pos e, if_pos (by rw [e])]; rfl
              · rw [if_neg e, if_neg (by intro h; simp at h; exact e h)]; rfl
            · rw [if_pos rfl, if_neg (by intro h; simp at h)]; rfl
        · rw [if_neg h5, ih r (n + 1) (by omega) hb.2 (by omega) (by omega)]
          by_cases e : stf (n + 1) (uim (n + 1) r) = r
          · rw [if_pos e, if_pos (by rw [e])]; rfl
          · rw [if_neg e, if_neg (by intro h; simp at h; exact e h)]; rfl
      · rw [if_neg hc, if_neg hc, ih r 0 (by omega) hb.2 (by omega) (by omega)]
        by_cases e : stf 0 (uim 0 r) = r
        · rw [if_pos e, if_pos (by rw [e])]; rfl
        · rw [if_neg e, if_neg (by intro h; simp at h; exact e h)]; rfl

/-! What the programs over bits compute. -/
theorem tb_cons (c : Int) (r : List Int) : tb (c :: r) = tb [c] ++ tb r := tb_append [c] r
theorem e48 : (⟨#[48]⟩ : ByteArray) = tb [48] := rfl
theorem size_tb1 (c : Int) : (tb [c]).size = 1 := tb_len _
theorem size_app1 (s : ByteArray) (c : Int) : (s ++ tb [c]).size = s.size + 1 := by rw [ByteArray.size_append, size_tb1]
theorem glue1 (a : ByteArray) (c : Int) (r : List Int) : a ++ tb [c] ++ tb r = a ++ tb (c :: r) := by rw [tb_cons c r, app_assoc]
theorem stuff_l0 (s : ByteArray) (hs : s.size ≤ 1000000) : ∀ (d j k : Nat) (acc : ByteArray) (n : Int), s.size - j = d → j ≤ s.size → acc.size ≤ 2 * j → 0 ≤ n → n ≤ 4 → d < k →
    spec_stuff.l0 k s acc n (j : Int) = some (acc ++ tb (stf n ((bl s).drop j))) := by
  intro d
  induction d with
  | zero =>
    intro j k acc n hd hj ha h0 h1 hk
    obtain ⟨k, rfl⟩ : ∃ m, k = m + 1 := ⟨k - 1, by omega⟩
    simp only [spec_stuff.l0]
    rw [if_neg (by omega), List.drop_eq_nil_of_le (by rw [bl_len]; omega), stf, app_nil]
  | succ d ih =>
    intro j k acc n hd hj ha h0 h1 hk
    obtain ⟨k, rfl⟩ : ∃ m, k = m + 1 := ⟨k - 1, by omega⟩
    simp only [spec_stuff.l0]
    rw [if_pos (by omega), if_pos (by omega), w64s (by omega), if_pos (by omega), if_pos (by omega), Int.toNat_natCast, Int.toNat_natCast, extract_one s j (by omega), size_tb1, if_pos (by omega), size_app1,
      w64 (n := n + 1) (by omega) (by omega), e48, bl_drop s j (by omega), stf]
    generalize bt s (j : Int) = c
    by_cases hc : c = 49
    · rw [if_pos hc, if_pos hc]
      by_cases h5 : n + 1 = 5
      · rw [if_pos h5, if_pos h5, if_pos (by omega), ih (j + 1) k _ 0 (by omega) (by omega) (by rw [size_app1, size_app1]; omega) (by omega) (by omega) (by omega), glue1, glue1]
      · rw [if_neg h5, if_neg h5, ih (j + 1) k _ (n + 1) (by omega) (by omega) (by rw [size_app1]; omega) (by omega) (by omega) (by omega), glue1]
    · rw [if_neg hc, if_neg hc, if_neg (by decide), ih (j + 1) k _ 0 (by omega) (by omega) (by rw [size_app1]; omega) (by omega) (by omega) (by omega), glue1]
theorem nil_tb : (⟨#[]⟩ : ByteArray) = tb [] := rfl
theorem stuff_some (s : ByteArray) (hs : s.size ≤ 1000000) (k : Nat) (hk : s.size < k) : spec_stuff.f k s = some (tb (stf 0 (bl s))) := by
  unfold spec_stuff.f
  have := stuff_l0 s hs s.size 0 k (⟨#[]⟩ : ByteArray) 0 (by omega) (by omega) (by simp [ByteArray.size]) (by omega) (by omega) hk
  rw [show ((0 : Nat) : Int) = 0 by rfl, List.drop_zero, nil_tb, nil_app] at this
  exact this
theorem bits_at (s : ByteArray) (hb : okBits s = true) (j : Nat) (hj : j < s.size) : bt s (j : Int) = 48 ∨ bt s (j : Int) = 49 := by
  rw [← isBit_iff, bt_nat s j hj]
  exact List.all_eq_true.1 hb _ (List.getElem_mem _)
theorem stuffed_l0 (s : ByteArray) (hs : s.size ≤ 1000000) (hb : okBits s = true) : ∀ (d j k : Nat) (acc : ByteArray) (n : Int), s.size - j = d → j ≤ s.size → acc.size ≤ 2 * j → 0 ≤ n → n ≤ 4 → d < k →
    impl_stuffed.l0 k s acc n (s.size : Int) (j : Int) = some (acc ++ tb (stf n ((bl s).drop j))) := by
  intro d
  induction d with
  | zero =>
    intro j k acc n hd hj ha h0 h1 hk
    obtain ⟨k, rfl⟩ : ∃ m, k = m + 1 := ⟨k - 1, by omega⟩
    simp only [impl_stuffed.l0]
    rw [if_neg (by omega), List.drop_eq_nil_of_le (by rw [bl_len]; omega), stf, app_nil]
  | succ d ih =>
    intro j k acc n hd hj ha h0 h1 hk
    obtain ⟨k, rfl⟩ : ∃ m, k = m + 1 := ⟨k - 1, by omega⟩
    simp only [impl_stuffed.l0]
    rw [if_pos (by omega), if_pos (by omega), w64s (by omega), if_pos (by omega), if_pos (by omega), Int.toNat_natCast, Int.toNat_natCast, extract_one s j (by omega), size_tb1, if_pos (by omega), if_pos (by omega), size_app1,
      w64 (n := n + 1) (by omega) (by omega), e48, bl_drop s j (by omega), stf]
    have hc := bits_at s hb j (by omega)
    generalize bt s (j : Int) = c at hc ⊢
    by_cases h49 : c = 49
    · subst h49
      rw [show wrap64 ((n + 1) * ((49 - 48) % 256)) = n + 1 by rw [show ((49 : Int) - 48) % 256 = 1 by rfl, Int.mul_one]; exact w64 (by omega) (by omega), if_pos rfl]
      by_cases h5 : n + 1 = 5
      · rw [if_pos h5, if_pos h5, if_pos (by omega), ih (j + 1) k _ 0 (by omega) (by omega) (by rw [size_app1, size_app1]; omega) (by omega) (by omega) (by omega), glue1, glue1]
      · rw [if_neg h5, if_neg h5, ih (j + 1) k _ (n + 1) (by omega) (by omega) (by rw [size_app1]; omega) (by omega) (by omega) (by omega), glue1]
    · have h48 : c = 48 := by omega
      subst h48
      rw [show wrap64 ((n + 1) * ((48 - 48) % 256)) = 0 by rw [show ((48 : Int) - 48) % 256 = 0 by rfl, Int.mul_zero]; exact w64 (by omega) (by omega), if_neg h49, if_neg (by omega),
        ih (j + 1) k _ 0 (by omega) (by omega) (by rw [size_app1]; omega) (by omega) (by omega) (by omega), glue1]
theorem stuffed_some (s : ByteArray) (hs : s.size ≤ 1000000) (hb : okBits s = true) (k : Nat) (hk : s.size < k) : impl_stuffed.f k s = some (tb (stf 0 (bl s))) := by
  unfold impl_stuffed.f
  have := stuffed_l0 s hs hb s.size 0 k (⟨#[]⟩ : ByteArray) 0 (by omega) (by omega) (by simp [ByteArray.size]) (by omega) (by omega) hk
  rw [show ((0 : Nat) : Int) = 0 by rfl, List.drop_zero, nil_tb, nil_app] at this
  exact this
def sout (s : ByteArray) : ByteArray := if okBits s = true ∧ s.size ≤ 40 then tb (stf 0 (bl s)) else tb []
theorem specS_some (s : ByteArray) (hs : s.size ≤ 1000000) (k : Nat) (hk : s.size < k) : spec_StuffBits.f k s = some (sout s) := by
  unfold spec_StuffBits.f sout
  rw [validBits_some s (by omega) k hk, bsome]
  by_cases h : okBits s = true ∧ s.size ≤ 40
  · rw [if_pos h, if_pos (by simp [h.1, h.2]), stuff_some s hs k hk, bsome]
  · rw [if_neg h, if_neg (by simpa using h)]; rfl
theorem implS_some (s : ByteArray) (hs : s.size ≤ 1000000) (k : Nat) (hk : s.size < k) : impl_StuffBits.f k s = some (sout s) := by
  unfold impl_StuffBits.f sout
  rw [valid_some s (by omega), bsome]
  by_cases h : okBits s = true ∧ s.size ≤ 40
  · rw [if_pos h, if_pos (by simp [h.1, h.2]), stuffed_some s hs h.1 k hk, bsome]
  · rw [if_neg h, if_neg (by simpa using h)]; rfl

/-! Unstuffed bits: both programs. -/
def uok (s : ByteArray) : Prop := s.size ≤ 48 ∧ okBits s = true ∧ (uim 0 (bl s)).length ≤ 40 ∧ stf 0 (uim 0 (bl s)) = bl s
instance (s : ByteArray) : Decidable (uok s) := by unfold uok; infer_instance
def uout (s : ByteArray) : ByteArray × Bool := if uok s then (tb (uim 0 (bl s)), true) else (tb [], false)
theorem bits_byte {l : List Int} (h : l.all isBit = true) : ∀ x ∈ l, 0 ≤ x ∧ x ≤ 255 := by
  intro x hx
  have := (isBit_iff x).1 (List.all_eq_true.1 h x hx)
  omega
theorem bl_tb_bits {l : List Int} (h : l.all isBit = true) : bl (tb l) = l := bl_tb l (bits_byte h)
theorem okBits_tb {l : List Int} (h : l.all isBit = true) : okBits (tb l) = true := by unfold okBits; rw [bl_tb_bits h]; exact h
def finU (s o : ByteArray) : ByteArray × Bool := if o.size ≤ 40 ∧ tb (stf 0 (bl o)) = s then (o, true) else (tb [], false)
theorem implU_l0 (s : ByteArray) (hs : s.size ≤ 1000) (hb : okBits s = true) : ∀ (d j k : Nat) (acc : List Int) (n : Int), s.size - j = d → j ≤ s.size → acc.length ≤ j → acc.all isBit = true → 0 ≤ n → n ≤ 5 → d + 2000 < k →
    impl_UnstuffBits.l0 k s (tb acc) n (j : Int) = some (finU s (tb (acc ++ uim n ((bl s).drop j)))) := by
  intro d
  induction d with
  | zero =>
    intro j k acc n hd hj ha hab h0 h1 hk
    obtain ⟨k, rfl⟩ : ∃ m, k = m + 1 := ⟨k - 1, by omega⟩
    simp only [impl_UnstuffBits.l0]
    rw [if_neg (by omega), List.drop_eq_nil_of_le (by rw [bl_len]; omega), uim, List.append_nil, valid_some _ (by rw [tb_len]; omega), bsome, okBits_tb hab, Bool.true_and]
    unfold finU
    by_cases h4 : (tb acc).size ≤ 40
    · rw [if_pos (by simpa using h4), stuffed_some _ (by omega) (okBits_tb hab) _ (by omega), bsome]
      by_cases he : tb (stf 0 (bl (tb acc))) = s
      · rw [if_pos ((toList_eq_iff _ _).2 he), if_pos ⟨h4, he⟩]
      · rw [if_neg (fun h => he ((toList_eq_iff _ _).1 h)), if_neg (fun h => he h.2)]; rfl
    · rw [if_neg (by simpa using h4), if_neg (fun h => h4 h.1)]; rfl
  | succ d ih =>
    intro j k acc n hd hj ha hab h0 h1 hk
    obtain ⟨k, rfl⟩ : ∃ m, k = m + 1 := ⟨k - 1, by omega⟩
    simp only [impl_UnstuffBits.l0]
    rw [if_pos (by omega), w64s (by omega), bl_drop s j (by omega), uim]
    have hc := bits_at s hb j (by omega)
    by_cases h5 : n = 5
    · rw [if_pos h5, if_pos h5, ih (j + 1) k acc 0 (by omega) (by omega) (by omega) hab (by omega) (by omega) (by omega)]
    · rw [if_neg h5, if_neg h5, if_pos (by omega), if_pos (by omega), if_pos (by omega), Int.toNat_natCast, Int.toNat_natCast, extract_one s j (by omega), size_tb1, tb_len, if_pos (by omega),
        w64 (n := n + 1) (by omega) (by omega), ← tb_append]
      generalize bt s (j : Int) = c at hc ⊢
      have hcb : (acc ++ [c]).all isBit = true := by
        rw [List.all_append, hab]
        simp [(isBit_iff c).2 hc]
      by_cases h49 : c = 49
      · subst h49
        rw [show wrap64 ((n + 1) * ((49 - 48) % 256)) = n + 1 by rw [show ((49 : Int) - 48) % 256 = 1 by rfl, Int.mul_one]; exact w64 (by omega) (by omega), if_pos rfl,
          ih (j + 1) k _ (n + 1) (by omega) (by omega) (by simp; omega) hcb (by omega) (by omega) (by omega), List.append_assoc]
        rfl
      · have h48 : c = 48 := by omega
        subst h48
        rw [show wrap64 ((n + 1) * ((48 - 48) % 256)) = 0 by rw [show ((48 : Int) - 48) % 256 = 0 by rfl, Int.mul_zero]; exact w64 (by omega) (by omega), if_neg h49,
          ih (j + 1) k _ 0 (by omega) (by omega) (by simp; omega) hcb (by omega) (by omega) (by omega), List.append_assoc]
        rfl
theorem fin_eq (s : ByteArray) (hs : s.size ≤ 48) (hb : okBits s = true) : finU s (tb (uim 0 (bl s))) = uout s := by
  unfold finU uout
  have hu := uim_bits (bl s) 0 hb
  by_cases h : uok s
  · rw [if_pos h, if_pos ⟨by rw [tb_len]; exact h.2.2.1, by rw [bl_tb_bits hu, h.2.2.2, tb_bl]⟩]
  · rw [if_neg h, if_neg]
    rintro ⟨h1, h2⟩
    refine h ⟨hs, hb, by rw [tb_len] at h1; exact h1, ?_⟩
    rw [bl_tb_bits hu] at h2
    have h3 := congrArg bl h2
    rw [bl_tb_bits (stf_bits _ _ hu)] at h3
    exact h3
theorem implU_some (s : ByteArray) (hs : s.size ≤ 1000000000) (k : Nat) (hk : 3000 ≤ k) : impl_UnstuffBits.f k s = some (uout s) := by
  obtain ⟨k, rfl⟩ : ∃ m, k = m + 1 := ⟨k - 1, by omega⟩
  unfold impl_UnstuffBits.f
  by_cases h : (s.size : Int) > 48
  · rw [if_pos h]
    simp only [impl_UnstuffBits.j0, if_true]
    unfold uout
    rw [if_neg (fun x => by have := x.1; omega)]; rfl
  · rw [if_neg h, bitsAlone_some s hs, bsome]
    cases hb : okBits s with
    | false =>
      simp only [Bool.not_false, impl_UnstuffBits.j0, if_true]
      unfold uout
      rw [if_neg (fun x => by have := x.2.1; rw [hb] at this; cases this)]; rfl
    | true =>
      simp only [Bool.not_true, impl_UnstuffBits.j0, Bool.false_eq_true, if_false]
      have := implU_l0 s (by omega) hb s.size 0 k [] 0 (by omega) (by omega) (by simp) rfl (by omega) (by omega) (by omega)
      rw [show ((0 : Nat) : Int) = 0 by rfl, List.drop_zero, List.nil_append] at this
      rw [nil_tb, this, fin_eq s (by omega) hb]
theorem unstuff_l0 (s : ByteArray) (hs : s.size ≤ 1000) : ∀ (d j k : Nat) (acc : ByteArray) (n : Int), s.size - j = d → j ≤ s.size → acc.size ≤ j → 0 ≤ n → n ≤ 5 → d < k →
    (usp n ((bl s).drop j) = none → ∃ x, spec_unstuff.l0 k s acc n (j : Int) = some (x, false)) ∧ (∀ o, usp n ((bl s).drop j) = some o → spec_unstuff.l0 k s acc n (j : Int) = some (acc ++ tb o, true)) := by
  intro d
  induction d with
  | zero =>
    intro j k acc n hd hj ha h0 h1 hk
    obtain ⟨k, rfl⟩ : ∃ m, k = m + 1 := ⟨k - 1, by omega⟩
    simp only [spec_unstuff.l0]
    rw [if_neg (by omega), List.drop_eq_nil_of_le (by rw [bl_len]; omega), usp]
    constructor
    · intro h
      split at h
      · cases h
      · exact ⟨acc, by rw [decide_eq_false ‹_›]⟩
    · intro o h
      split at h
      · cases h
        rw [decide_eq_true ‹_›, app_nil]
      · cases h
  | succ d ih =>
    intro j k acc n hd hj ha h0 h1 hk
    obtain ⟨k, rfl⟩ : ∃ m, k = m + 1 := ⟨k - 1, by omega⟩
    simp only [spec_unstuff.l0]
    rw [if_pos (by omega), w64s (by omega), bl_drop s j (by omega), usp]
    by_cases h5 : n = 5
    · rw [if_pos h5, if_pos h5]
      by_cases hc : bt s (j : Int) = 49
      · rw [if_pos hc, if_pos (show (0 : Int) ≤ (j : Int) by omega), if_pos hc]
        exact ⟨fun _ => ⟨_, rfl⟩, fun o h => by cases h⟩
      · rw [if_neg hc, if_pos (show (0 : Int) ≤ (j : Int) by omega), if_neg hc]
        exact ih (j + 1) k acc 0 (by omega) (by omega) (by omega) (by omega) (by omega) (by omega)
    · rw [if_neg h5, if_neg h5, if_pos (show (0 : Int) ≤ (j : Int) by omega), if_pos (show (j : Int) ≤ ((j + 1 : Nat) : Int) by omega), if_pos (show ((j + 1 : Nat) : Int) ≤ (s.size : Int) by omega),
        Int.toNat_natCast, Int.toNat_natCast, extract_one s j (by omega), size_tb1, if_pos (show acc.size + 1 ≤ 9223372036854775807 by omega), w64 (n := n + 1) (by omega) (by omega)]
      have key : ∀ m : Int, 0 ≤ m → m ≤ 5 → (Option.map (bt s (j : Int) :: ·) (usp m ((bl s).drop (j + 1))) = none → ∃ x, spec_unstuff.l0 k s (acc ++ tb [bt s (j : Int)]) m ((j + 1 : Nat) : Int) = some (x, false)) ∧
          (∀ o, Option.map (bt s (j : Int) :: ·) (usp m ((bl s).drop (j + 1))) = some o → spec_unstuff.l0 k s (acc ++ tb [bt s (j : Int)]) m ((j + 1 : Nat) : Int) = some (acc ++ tb o, true)) := by
        intro m m0 m5
        obtain ⟨i1, i2⟩ := ih (j + 1) k (acc ++ tb [bt s (j : Int)]) m (by omega) (by omega) (by rw [size_app1]; omega) m0 m5 (by omega)
        constructor
        · intro h
          exact i1 (by simpa using h)
        · intro o h
          obtain ⟨q, hq, rfl⟩ := Option.map_eq_some_iff.1 h
          rw [i2 q hq, glue1]
      by_cases hc : bt s (j : Int) = 49
      · rw [if_pos hc, if_pos hc]; exact key (n + 1) (by omega) (by omega)
      · rw [if_neg hc, if_neg hc]; exact key 0 (by omega) (by omega)
theorem specU_l0 (s : ByteArray) (hs : s.size ≤ 48) : ∀ (d j k : Nat), s.size - j = d → j ≤ s.size → d + 2000 < k →
    spec_UnstuffBits.l0 k s (j : Int) = if ((bl s).drop j).all isBit = true then spec_UnstuffBits.l0 (k - d) s (s.size : Int) else some (tb [], false) := by
  intro d
  induction d with
  | zero =>
    intro j k hd hj hk
    have : j = s.size := by omega
    subst this
    rw [List.drop_eq_nil_of_le (by rw [bl_len]; omega), if_pos (show ([] : List Int).all isBit = true from rfl), Nat.sub_zero]
  | succ d ih =>
    intro j k hd hj hk
    obtain ⟨k, rfl⟩ : ∃ m, k = m + 1 := ⟨k - 1, by omega⟩
    conv => lhs; simp only [spec_UnstuffBits.l0]
    rw [if_pos (by omega), if_pos (by omega), w64s (by omega), ih (j + 1) k (by omega) (by omega) (by omega), bl_drop s j (by omega), List.all_cons, show k + 1 - (d + 1) = k - d by omega]
    generalize bt s (j : Int) = c
    by_cases h1 : c = 48
    · rw [if_pos h1]; simp [isBit, h1]
    · rw [if_neg h1]
      by_cases h2 : c = 49
      · rw [if_pos h2]; simp [isBit, h2]
      · rw [if_neg h2]; simp [isBit, h1, h2]; rfl
theorem specU_some (s : ByteArray) (k : Nat) (hk : 3000 ≤ k) : spec_UnstuffBits.f k s = some (uout s) := by
  unfold spec_UnstuffBits.f
  by_cases h : (s.size : Int) > 48
  · rw [if_pos h]
    unfold uout
    rw [if_neg (fun x => by have := x.1; omega)]; rfl
  · rw [if_neg h]
    have h0 := specU_l0 s (by omega) s.size 0 k (by omega) (by omega) (by omega)
    rw [show ((0 : Nat) : Int) = 0 by rfl, List.drop_zero] at h0
    rw [h0]
    by_cases hb : (bl s).all isBit = true
    · rw [if_pos hb]
      obtain ⟨m, hm⟩ : ∃ m, k - s.size = m + 1 := ⟨k - s.size - 1, by omega⟩
      rw [hm]
      simp only [spec_UnstuffBits.l0]
      rw [if_neg (by omega)]
      obtain ⟨g1, g2⟩ := unstuff_l0 s (by omega) s.size 0 m (⟨#[]⟩ : ByteArray) 0 (by omega) (by omega) (by simp [ByteArray.size]) (by omega) (by omega) (by omega)
      rw [List.drop_zero, show ((0 : Nat) : Int) = 0 by rfl, usp_eq (bl s).length (bl s) 0 (Nat.le_refl _) hb (by omega) (by omega)] at g1 g2
      unfold spec_unstuff.f
      by_cases he : stf 0 (uim 0 (bl s)) = bl s
      · rw [if_pos he] at g2
        rw [g2 _ rfl, bsome]
        simp only [if_true]
        have hul := uim_len (bl s) 0
        rw [bl_len] at hul
        rw [nil_tb, nil_app, validBits_some _ (by rw [tb_len]; omega) _ (by rw [tb_len]; omega), bsome, okBits_tb (uim_bits _ _ hb), Bool.true_and, tb_len]
        unfold uout
        by_cases h4 : (uim 0 (bl s)).length ≤ 40
        · rw [if_pos (by simpa using h4), if_pos ⟨by omega, hb, h4, he⟩]
        · rw [if_neg (by simpa using h4), if_neg (fun x => h4 x.2.2.1)]
      · rw [if_neg he] at g1
        obtain ⟨x, hx⟩ := g1 rfl
        rw [hx, bsome]
        simp only [Bool.false_eq_true, if_false]
        unfold uout
        rw [if_neg (fun x => he x.2.2.2)]; rfl
    · rw [if_neg hb]
      unfold uout
      rw [if_neg (fun x => hb x.2.1)]

/-- One of some strings, picked. -/
theorem of_some {b : List Int} {p n : Int} (h : RS b p n) (hn : n ≤ 1000000000) (l : List ByteArray) (hl : 1 ≤ l.length) (hm : l.length ≤ 1000000) : ∃ r, (∀ k, 1 ≤ k → spec_reader_of.f k b p l = some (r, p + 1)) ∧ r ∈ l ∧ RS b (p + 1) (n + 1) := by
  obtain ⟨r, hr, r0, r1, hR⟩ := pick_some h hn (l.length : Int) (by omega)
  have r2 := r1 (by omega)
  refine ⟨rdOf ByteArray.empty l r, fun k hk => ?_, ?_, hR⟩
  · unfold spec_reader_of.f
    rw [hr k hk, bsome]
    rw [if_pos r0, if_pos r2]
  · unfold rdOf
    rw [List.getD_eq_getElem?_getD, List.getElem?_eq_getElem (by omega)]
    exact List.getElem_mem _

/-! Drawn bits. -/
theorem someBits_j1 {b : List Int} (k : Nat) (s : ByteArray) (p n : Int) (hR : RS b p n) (hn : n ≤ 100000) (hs : s.size ≤ 1000) (hk : 2 ≤ k) :
    ∃ t q, spec_someBits.j1 k s b p = some (t, q) ∧ t.size ≤ s.size + 41 ∧ RS b q (n + 2) := by
  obtain ⟨k, rfl⟩ : ∃ m, k = m + 1 := ⟨k - 1, by omega⟩
  simp only [spec_someBits.j1]
  obtain ⟨r, hr, _, _, hR1⟩ := pick_some hR (by omega) 24 (by omega)
  rw [hr k (by omega), bsome]
  simp only []
  by_cases h0 : r = 0
  · rw [if_pos h0]
    obtain ⟨t, ht, hm, hR2⟩ := of_some hR1 (by omega) ([(⟨#[50]⟩ : ByteArray), (⟨#[120]⟩ : ByteArray), (⟨#[48, 48, 48, 48, 48, 48, 48, 48, 48, 48, 48, 48, 48, 48, 48, 48, 48, 48, 48, 48, 48, 48, 48, 48, 48, 48, 48, 48, 48, 48, 48, 48, 48, 48, 48, 48, 48, 48, 48, 48, 48]⟩ : ByteArray)]) (by simp) (by simp)
    have h1 : t.size ≤ 41 := by
      simp only [List.mem_cons, List.not_mem_nil, or_false] at hm
      rcases hm with rfl | rfl | rfl <;> decide
    rw [ht k (by omega), bsome]
    simp only []
    rw [if_pos (by omega)]
    exact ⟨_, _, rfl, by rw [ByteArray.size_append]; omega, hR2.le (by omega)⟩
  · rw [if_neg h0]
    exact ⟨_, _, rfl, by omega, hR1.le (by omega)⟩
theorem someBits_l0 {b : List Int} (most : Int) : ∀ (d k : Nat) (s : ByteArray) (x p n : Int), RS b p n → n ≤ 10000 - d → x.toNat = d → x ≤ 100 → s.size + d ≤ 900 → d + 4 ≤ k →
    ∃ t q, spec_someBits.l0 k most s x b p = some (t, q) ∧ t.size ≤ s.size + d + 41 ∧ RS b q (n + d + 2) := by
  intro d
  induction d with
  | zero =>
    intro k s x p n hR hn hx hx2 hs hk
    obtain ⟨k, rfl⟩ : ∃ m, k = m + 1 := ⟨k - 1, by omega⟩
    simp only [spec_someBits.l0]
    rw [if_neg (by omega)]
    obtain ⟨t, q, h1, h2, h3⟩ := someBits_j1 k s p n hR (by omega) (by omega) (by omega)
    exact ⟨t, q, h1, by omega, h3.le (by omega)⟩
  | succ d ih =>
    intro k s x p n hR hn hx hx2 hs hk
    obtain ⟨k, rfl⟩ : ∃ m, k = m + 1 := ⟨k - 1, by omega⟩
    simp only [spec_someBits.l0]
    rw [if_pos (by omega)]
    by_cases hm : (s.size : Int) < most
    · rw [if_pos hm]
      obtain ⟨t, ht, htm, hR1⟩ := of_some hR (by omega) ([(⟨#[48]⟩ : ByteArray), (⟨#[49]⟩ : ByteArray), (⟨#[49]⟩ : ByteArray), (⟨#[49]⟩ : ByteArray)]) (by simp) (by simp)
      have h1 : t.size = 1 := by
        simp only [List.mem_cons, List.not_mem_nil, or_false] at htm
        rcases htm with rfl | rfl | rfl | rfl <;> rfl
      rw [ht k (by omega), bsome]
      simp only []
      rw [if_pos (by omega), w64 (n := x - 1) (by omega) (by omega)]
      have h2 : (s ++ t).size = s.size + 1 := by rw [ByteArray.size_append, h1]
      obtain ⟨t2, q, g1, g2, g3⟩ := ih k (s ++ t) (x - 1) (p + 1) (n + 1) hR1 (by omega) (by omega) (by omega) (by omega) (by omega)
      exact ⟨t2, q, g1, by omega, g3.le (by omega)⟩
    · rw [if_neg hm]
      obtain ⟨t, q, h1, h2, h3⟩ := someBits_j1 k s p n hR (by omega) (by omega) (by omega)
      exact ⟨t, q, h1, by omega, h3.le (by omega)⟩
theorem someBits_some {b : List Int} {p n : Int} (hR : RS b p n) (hn : n ≤ 5000) (most : Int) (k : Nat) (hk : 100 ≤ k) :
    ∃ t q, spec_someBits.f k b p most = some (t, q) ∧ t.size ≤ 81 ∧ RS b q (n + 50) := by
  unfold spec_someBits.f
  obtain ⟨r, hr, hm, hR1⟩ := one_some hR (by omega) ([12, 8, 20, 4, 1, 0, 40] : List Int) (by simp) (by simp)
  have h40 : 0 ≤ r ∧ r ≤ 40 := by
    simp only [List.mem_cons, List.not_mem_nil, or_false] at hm
    omega
  rw [hr k (by omega), bsome]
  obtain ⟨t, q, h1, h2, h3⟩ := someBits_l0 most r.toNat k (⟨#[]⟩ : ByteArray) r (p + 1) (n + 1) hR1 (by omega) rfl (by omega) (by simp [ByteArray.size]; omega) (by omega)
  have hz : (⟨#[]⟩ : ByteArray).size = 0 := rfl
  exact ⟨t, q, h1, by omega, h3.le (by omega)⟩

/-! Rows of ones in stuffed bits. -/
def rok : Int → List Int → Bool
  | _, [] => true
  | n, c :: r => if (if c = 48 then (0 : Int) else n + 1) > 5 then false else rok (if c = 48 then 0 else n + 1) r
theorem rok_stf : ∀ (l : List Int) (n : Int), l.all isBit = true → 0 ≤ n → n ≤ 4 → rok n (stf n l) = true
  | [], n, h, h0, h1 => by simp [stf, rok]
  | c :: r, n, h, h0, h1 => by
    simp only [List.all_cons, Bool.and_eq_true] at h
    unfold stf
    by_cases hc : c = 49
    · subst hc
      rw [if_pos rfl]
      by_cases h5 : n + 1 = 5
      · rw [if_pos h5, rok, if_neg (show ¬ (49 : Int) = 48 by decide), if_neg (show ¬ n + 1 > 5 by omega), rok, if_pos rfl, if_neg (show ¬ (0 : Int) > 5 by decide), rok_stf r 0 h.2 (by omega) (by omega)]
      · rw [if_neg h5, rok, if_neg (show ¬ (49 : Int) = 48 by decide), if_neg (show ¬ n + 1 > 5 by omega), rok_stf r (n + 1) h.2 (by omega) (by omega)]
    · have h48 : c = 48 := by
        have := (isBit_iff c).1 h.1
        omega
      rw [if_neg hc, rok, if_pos h48, if_neg (show ¬ (0 : Int) > 5 by decide), rok_stf r 0 h.2 (by omega) (by omega)]

/-! What stands between flags: cut as strings.Split cuts, and found from the left on. -/
section
variable {α : Type} [BEq α]
def pcs (F : List α) : Nat → List α → List α → List (List α)
  | 0, cur, l => [cur ++ l]
  | _ + 1, cur, [] => [cur]
  | n + 1, cur, c :: r => if F.isPrefixOf (c :: r) = true then cur :: pcs F n [] ((c :: r).drop F.length) else pcs F n (cur ++ [c]) r
theorem pcs_cur (F : List α) : ∀ (n : Nat) (cur l : List α), l.length < n → ∃ p ps, pcs F n [] l = p :: ps ∧ pcs F n cur l = (cur ++ p) :: ps := by
  intro n
  induction n with
  | zero => intro cur l h; omega
  | succ n ih =>
    intro cur l h
    match l, h with
    | [], _ => exact ⟨[], [], rfl, by simp [pcs]⟩
    | c :: r, h =>
      simp only [List.length_cons] at h
      unfold pcs
      by_cases hp : F.isPrefixOf (c :: r) = true
      · rw [if_pos hp, if_pos hp]
        exact ⟨[], _, rfl, by simp⟩
      · rw [if_neg hp, if_neg hp]
        obtain ⟨p, ps, h1, h2⟩ := ih (cur ++ [c]) r (by omega)
        obtain ⟨p', ps', h3, h4⟩ := ih ([] ++ [c]) r (by omega)
        rw [h1] at h3
        cases h3
        exact ⟨_, _, h4, by rw [h2]; simp⟩
theorem pcs_fuel (F : List α) (hF : F ≠ []) : ∀ (n m : Nat) (cur l : List α), l.length < n → l.length < m → pcs F n cur l = pcs F m cur l := by
  intro n
  induction n with
  | zero => intro m cur l h; omega
  | succ n ih =>
    intro m cur l h hm
    obtain ⟨m, rfl⟩ : ∃ q, m = q + 1 := ⟨m - 1, by omega⟩
    match l, h, hm with
    | [], _, _ => rfl
    | c :: r, h, hm =>
      simp only [List.length_cons] at h hm
      unfold pcs
      by_cases hp : F.isPrefixOf (c :: r) = true
      · have h0 : F.length ≠ 0 := fun e => hF (List.length_eq_zero_iff.1 e)
        rw [if_pos hp, if_pos hp, ih m [] _ (by rw [List.length_drop, List.length_cons]; omega) (by rw [List.length_drop, List.length_cons]; omega)]
      · rw [if_neg hp, if_neg hp, ih m _ r (by omega) (by omega)]
/-- Nothing to be found in too little. -/
theorem pcs_short [LawfulBEq α] (F : List α) : ∀ (n : Nat) (cur l : List α), l.length < F.length → l.length < n → pcs F n cur l = [cur ++ l] := by
  intro n
  induction n with
  | zero => intro cur l h hn; omega
  | succ n ih =>
    intro cur l h hn
    match l, h, hn with
    | [], _, _ => simp [pcs]
    | c :: r, h, hn =>
      have hp : ¬ F.isPrefixOf (c :: r) = true := by
        rw [List.isPrefixOf_iff_prefix]
        intro hp
        have := hp.length_le
        omega
      simp only [List.length_cons] at h hn
      unfold pcs
      rw [if_neg hp, ih (cur ++ [c]) r (by omega) (by omega)]
      simp
end
theorem pcs_map {α β : Type} [BEq α] [LawfulBEq α] [BEq β] [LawfulBEq β] (f : α → β) (hf : ∀ x y, f x = f y → x = y) (F : List α) : ∀ (n : Nat) (cur l : List α), pcs (F.map f) n (cur.map f) (l.map f) = (pcs F n cur l).map (List.map f) := by
  have hpre : ∀ l : List α, (F.map f).isPrefixOf (l.map f) = F.isPrefixOf l := by
    induction F with
    | nil => intro l; simp [List.isPrefixOf]
    | cons a F ih =>
      intro l
      cases l with
      | nil => rfl
      | cons b l =>
        simp only [List.map_cons, List.isPrefixOf, ih]
        congr 1
        rw [Bool.eq_iff_iff]
        simp only [beq_iff_eq]
        exact ⟨fun h => hf _ _ h, fun h => by rw [h]⟩
  intro n
  induction n with
  | zero => intro cur l; simp [pcs]
  | succ n ih =>
    intro cur l
    cases l with
    | nil => rfl
    | cons c r =>
      simp only [List.map_cons, pcs]
      have := hpre (c :: r)
      simp only [List.map_cons] at this
      rw [this]
      by_cases hp : F.isPrefixOf (c :: r) = true
      · rw [if_pos hp, if_pos hp, List.length_map, ← List.map_cons, ← List.map_drop, List.map_cons, show ([] : List β) = ([] : List α).map f from rfl, ih]
      · rw [if_neg hp, if_neg hp, ← ih]
        simp
theorem split_hit {s F : List UInt8} {i : Nat} (hF : F ≠ []) (h : Lib.index s F = i) : Lib.split s F = s.take i :: Lib.split (s.drop (i + F.length)) F := by
  unfold Lib.split
  rw [Lib.count_hit hF h, Nat.add_comm 1, Lib.splitK, h, if_neg (by simp)]
  simp
theorem split_miss {s F : List UInt8} (h : Lib.index s F = -1) : Lib.split s F = [s] := by
  unfold Lib.split
  rw [Lib.count_miss h]
  rfl
theorem pcs_split (F : List UInt8) (hF : F ≠ []) : ∀ (n : Nat) (l : List UInt8), l.length < n → pcs F n [] l = Lib.split l F := by
  intro n
  induction n with
  | zero => intro l h; omega
  | succ n ih =>
    intro l h
    match l, h with
    | [], _ =>
      rw [split_miss (by
        unfold Lib.index
        cases F with
        | nil => exact absurd rfl hF
        | cons a b => rfl)]
      rfl
    | c :: r, h =>
      simp only [List.length_cons] at h
      unfold pcs
      by_cases hp : F.isPrefixOf (c :: r) = true
      · rw [if_pos hp, split_hit (i := 0) hF (by rw [Lib.index, if_pos hp]; rfl), List.take_zero, Nat.zero_add,
          ih _ (by rw [List.length_drop, List.length_cons]; have : F.length ≠ 0 := fun e => hF (List.length_eq_zero_iff.1 e); omega)]
      · rw [if_neg hp]
        obtain ⟨p, ps, h1, h2⟩ := pcs_cur F n ([] ++ [c]) r (by omega)
        rw [h2]
        rw [ih r (by omega)] at h1
        have hge := Lib.index_ge r F
        by_cases hm : Lib.index r F = -1
        · rw [split_miss hm] at h1
          cases h1
          rw [split_miss (by rw [Lib.index, if_neg hp, hm]; rfl)]
          rfl
        · obtain ⟨j, hj⟩ : ∃ j : Nat, Lib.index r F = j := ⟨(Lib.index r F).toNat, by omega⟩
          rw [split_hit hF hj] at h1
          cases h1
          rw [split_hit (s := c :: r) (i := j + 1) hF (by rw [Lib.index, if_neg hp, if_neg (by simpa using hm), hj]; rfl)]
          simp [show j + 1 + F.length = (j + F.length) + 1 by omega]
/-- The flag. -/
def FL : List Int := [48, 49, 49, 49, 49, 49, 49, 48]
theorem noF (m : Int) (hm : 0 ≤ m) (c : Int) (r rest : List Int) (h : rok m (c :: r) = true) : FL.isPrefixOf (c :: (r ++ (FL ++ rest))) = false := by
  cases hp : FL.isPrefixOf (c :: (r ++ (FL ++ rest))) with
  | false => rfl
  | true =>
    exfalso
    rw [List.isPrefixOf_iff_prefix] at hp
    obtain ⟨t, ht⟩ := hp
    match r, h, ht with
    | [], h, ht => simp [FL] at ht
    | [a], h, ht => simp [FL] at ht
    | [a, b], h, ht => simp [FL] at ht
    | [a, b, d], h, ht => simp [FL] at ht
    | [a, b, d, e], h, ht => simp [FL] at ht
    | [a, b, d, e, f], h, ht => simp [FL] at ht
    | a :: b :: d :: e :: f :: g :: r, h, ht =>
      simp only [FL, List.cons_append, List.nil_append, List.cons.injEq] at ht
      obtain ⟨rfl, rfl, rfl, rfl, rfl, rfl, rfl, _⟩ := ht
      simp [rok] at h
theorem pcs_row : ∀ (w : List Int) (m : Int) (n : Nat) (cur rest : List Int), 0 ≤ m → rok m w = true → (w ++ (FL ++ rest)).length < n → pcs FL n cur (w ++ (FL ++ rest)) = (cur ++ w) :: pcs FL n [] rest := by
  intro w
  induction w with
  | nil =>
    intro m n cur rest hm h hn
    obtain ⟨n, rfl⟩ : ∃ q, n = q + 1 := ⟨n - 1, by omega⟩
    rw [List.nil_append] at hn ⊢
    rw [List.length_append] at hn
    have hF : FL.length = 8 := rfl
    rw [show FL ++ rest = 48 :: ([49, 49, 49, 49, 49, 49, 48] ++ rest) from rfl, pcs, if_pos (by rw [List.isPrefixOf_iff_prefix]; exact ⟨rest, rfl⟩), List.append_nil]
    congr 1
    rw [show (48 :: ([49, 49, 49, 49, 49, 49, 48] ++ rest) : List Int).drop FL.length = rest from rfl]
    exact pcs_fuel FL (by simp [FL]) _ _ _ _ (by omega) (by omega)
  | cons c r ih =>
    intro m n cur rest hm h hn
    obtain ⟨n, rfl⟩ : ∃ q, n = q + 1 := ⟨n - 1, by omega⟩
    have hno := noF m hm c r rest h
    rw [List.cons_append] at hn ⊢
    simp only [List.length_cons] at hn
    rw [pcs, if_neg (by rw [hno]; simp)]
    rw [rok] at h
    have h2 : 0 ≤ (if c = 48 then (0 : Int) else m + 1) ∧ rok (if c = 48 then (0 : Int) else m + 1) r = true := by
      by_cases h6 : (if c = 48 then (0 : Int) else m + 1) > 5
      · rw [if_pos h6] at h; cases h
      · rw [if_neg h6] at h
        refine ⟨?_, h⟩
        split <;> omega
    rw [ih _ n (cur ++ [c]) rest h2.1 h2.2 (by omega), pcs_fuel FL (by simp [FL]) n (n + 1) [] rest (by simp only [List.length_append] at hn; omega) (by simp only [List.length_append] at hn; omega)]
    simp

/-! Frames on a wire: both programs. -/
def FB : ByteArray := tb FL
theorem flag_tb : (⟨#[48, 49, 49, 49, 49, 49, 49, 48]⟩ : ByteArray) = tb FL := rfl
theorem FL_bits : FL.all isBit = true := rfl
theorem FL_ne : FL ≠ [] := by simp [FL]
theorem implU_all (s : ByteArray) (k : Nat) (hk : 3000 ≤ k) : impl_UnstuffBits.f k s = some (uout s) := by
  by_cases hs : s.size ≤ 1000000000
  · exact implU_some s hs k hk
  · obtain ⟨k, rfl⟩ : ∃ m, k = m + 1 := ⟨k - 1, by omega⟩
    unfold impl_UnstuffBits.f
    rw [if_pos (by omega)]
    simp only [impl_UnstuffBits.j0, if_true]
    unfold uout
    rw [if_neg (fun x => by have := x.1; omega)]; rfl
theorem pcs_ne {α : Type} [BEq α] (F : List α) : ∀ (n : Nat) (cur l : List α), pcs F n cur l ≠ []
  | 0, cur, l => by simp [pcs]
  | n + 1, cur, [] => by simp [pcs]
  | n + 1, cur, c :: r => by
    unfold pcs
    split
    · simp
    · exact pcs_ne F n _ r
theorem split_some (s : ByteArray) (hs : s.size ≤ 1000000) : strings_Split.f s (tb FL) = some ((pcs FL (s.size + 1) [] (bl s)).map tb) := by
  unfold strings_Split.f
  rw [if_pos ⟨by omega, by decide⟩]
  congr 1
  have h1 := Lib.splitB_data (tb FL) 0 (Lib.countB s (tb FL)) s
  have h2 : Lib.splitK (tb FL).data.toList 0 (Lib.countB s (tb FL)) s.data.toList = Lib.split s.data.toList (tb FL).data.toList := rfl
  have hlen : s.data.toList.length = s.size := rfl
  have h3 := pcs_split (tb FL).data.toList (by decide) (s.size + 1) s.data.toList (by omega)
  rw [h2, ← h3] at h1
  have h4 := pcs_map (fun b : UInt8 => (b.toNat : Int)) (fun x y e => UInt8.toNat_inj.1 (Int.ofNat.inj e)) (tb FL).data.toList (s.size + 1) [] s.data.toList
  have h5 : (tb FL).data.toList.map (fun b : UInt8 => (b.toNat : Int)) = FL := rfl
  rw [h5, ← h1, List.map_map] at h4
  have h6 : pcs FL (s.size + 1) [] (bl s) = (Lib.splitB (tb FL) 0 (Lib.countB s (tb FL)) s).map bl := h4
  rw [h6, List.map_map]
  conv => lhs; rw [← List.map_id (Lib.splitB (tb FL) 0 (Lib.countB s (tb FL)) s)]
  refine List.map_congr_left fun x _ => ?_
  simp only [Function.comp, id, tb_bl]
/-- What is told of the pieces. -/
def Gf (ps : List (List Int)) : List ByteArray := (ps.dropLast.filter (fun p => !p.isEmpty)).map (fun p => (uout (tb p)).1)
theorem Gf_one (p : List Int) : Gf [p] = [] := rfl
theorem Gf_cons (p : List Int) (ps : List (List Int)) (h : ps ≠ []) : Gf (p :: ps) = if p = [] then Gf ps else (uout (tb p)).1 :: Gf ps := by
  unfold Gf
  rw [List.dropLast_cons_of_ne_nil h]
  by_cases hp : p = []
  · rw [if_pos hp, hp]; rfl
  · rw [if_neg hp, List.filter_cons_of_pos (by cases p with | nil => exact absurd rfl hp | cons _ _ => rfl)]
    rfl
def fnd (s : ByteArray) : List ByteArray := if s.size ≤ 300 ∧ okBits s = true then Gf ((pcs FL (s.size + 1) [] (bl s)).tail) else []
theorem rdOf_tb (L : List (List Int)) (j : Nat) (h : j < L.length) : rdOf ByteArray.empty (L.map tb) (j : Int) = tb L[j] := by
  unfold rdOf
  rw [Int.toNat_natCast, List.getD_eq_getElem?_getD, List.getElem?_map, List.getElem?_eq_getElem h]
  rfl
theorem implF_l0 (L : List (List Int)) (hL : L.length ≤ 100000) : ∀ (d j k : Nat) (acc : List ByteArray), L.length - j = d → j ≤ L.length + 5 → acc.length ≤ j → d + 3001 < k →
    impl_FindFrames.l0 k (L.map tb) acc (j : Int) = some (acc ++ Gf (L.drop j)) := by
  intro d
  induction d with
  | zero =>
    intro j k acc hd hj ha hk
    obtain ⟨k, rfl⟩ : ∃ m, k = m + 1 := ⟨k - 1, by omega⟩
    simp only [impl_FindFrames.l0]
    rw [w64s (by omega), List.length_map, if_neg (by omega), List.drop_eq_nil_of_le (by omega)]
    simp [Gf]
  | succ d ih =>
    intro j k acc hd hj ha hk
    obtain ⟨k, rfl⟩ : ∃ m, k = m + 1 := ⟨k - 1, by omega⟩
    simp only [impl_FindFrames.l0]
    rw [w64s (by omega), List.length_map, List.drop_eq_getElem_cons (show j < L.length by omega)]
    by_cases hl : ((j + 1 : Nat) : Int) < (L.length : Int)
    · rw [if_pos hl, if_pos (show (0 : Int) ≤ (j : Int) by omega), if_pos (show (j : Int) < (L.length : Int) by omega), rdOf_tb L j (by omega), Gf_cons _ _ (by rw [Ne, List.drop_eq_nil_iff]; omega)]
      by_cases hp : L[j] = []
      · rw [if_pos hp, if_pos (by rw [hp]; exact (toList_nil_iff _).2 rfl)]
        exact ih (j + 1) k acc (by omega) (by omega) (by omega) (by omega)
      · have h0 : ¬ (tb L[j]).toList = ([] : List UInt8) := fun e => hp (List.eq_nil_of_length_eq_zero (by have := (toList_nil_iff _).1 e; rwa [tb_len] at this))
        rw [if_neg hp, if_neg h0, implU_all _ _ (by omega), bsome, if_pos (show acc.length < 8796093022208 by omega), ih (j + 1) k _ (by omega) (by omega) (by simp; omega) (by omega), List.append_assoc]
        rfl
    · rw [if_neg hl, List.drop_eq_nil_of_le (show L.length ≤ j + 1 by omega), Gf_one]
      simp
theorem pcs_len {α : Type} [BEq α] (F : List α) : ∀ (n : Nat) (cur l : List α), (pcs F n cur l).length ≤ n + 1
  | 0, cur, l => by simp [pcs]
  | n + 1, cur, [] => by simp [pcs]
  | n + 1, cur, c :: r => by
    unfold pcs
    split
    · have := pcs_len F n [] ((c :: r).drop F.length)
      simp only [List.length_cons]; omega
    · have := pcs_len F n (cur ++ [c]) r
      omega
theorem implF_some (s : ByteArray) (hs : s.size ≤ 10000000) (k : Nat) (hk : 4000 ≤ k) : impl_FindFrames.f k s = some (fnd s) := by
  obtain ⟨k, rfl⟩ : ∃ m, k = m + 1 := ⟨k - 1, by omega⟩
  unfold impl_FindFrames.f fnd
  by_cases h : (s.size : Int) > 300
  · rw [if_pos h, if_neg (fun x => by have := x.1; omega)]
    simp only [impl_FindFrames.j0, if_true]
  · rw [if_neg h, bitsAlone_some s (by omega), bsome]
    cases hb : okBits s with
    | false =>
      rw [if_neg (by simp)]
      simp only [impl_FindFrames.j0, Bool.not_false, if_true]
    | true =>
      rw [if_pos (show s.size ≤ 300 ∧ true = true from ⟨by omega, rfl⟩)]
      simp only [impl_FindFrames.j0, Bool.not_true, Bool.false_eq_true, if_false]
      have hlen := pcs_len FL (s.size + 1) [] (bl s)
      have := implF_l0 (pcs FL (s.size + 1) [] (bl s)) (by omega) ((pcs FL (s.size + 1) [] (bl s)).length - 1) 1 k [] rfl (by omega) (by simp) (by omega)
      rw [flag_tb, split_some s (by omega), bsome, show (1 : Int) = ((1 : Nat) : Int) by rfl, this, List.nil_append, List.drop_one]
/-- The other program's loop. -/
def stF (from_ : Int) (P : List (List Int)) : List (List Int) := if from_ < 0 then P.tail else P
theorem isFlag (s : ByteArray) (j : Nat) (hj : j + 8 ≤ s.size) : ((s.extract j (j + 8)).toList = (tb FL).toList) ↔ FL.isPrefixOf ((bl s).drop j) = true := by
  rw [toList_eq_iff, List.isPrefixOf_iff_prefix, List.prefix_iff_eq_take]
  have h8 : FL.length = 8 := rfl
  have hb : bl (tb FL) = FL := bl_tb_bits FL_bits
  constructor
  · intro h
    have := congrArg bl h
    rw [bl_extract, hb, show j + 8 - j = 8 by omega] at this
    rw [h8, this]
  · intro h
    apply bl_inj
    rw [bl_extract, hb, show j + 8 - j = 8 by omega, ← h8, ← h]
theorem specF_l1 (s : ByteArray) (hs : s.size ≤ 300) : ∀ (N d j k : Nat) (acc : List ByteArray) (fr : Int) (cur : List Int), s.size - j ≤ d → d ≤ N → j ≤ s.size → acc.length ≤ j →
    (fr = -1 ∨ ∃ f : Nat, fr = f ∧ f ≤ j ∧ cur = ((bl s).drop f).take (j - f)) → d + 3001 < k →
      spec_FindFrames.l1 k s acc fr (j : Int) = some (acc ++ Gf (stF fr (pcs FL (s.size + 1) cur ((bl s).drop j)))) := by
  intro N
  induction N with
  | zero =>
    intro d j k acc fr cur hd hN hj ha hf hk
    obtain ⟨k, rfl⟩ : ∃ m, k = m + 1 := ⟨k - 1, by omega⟩
    simp only [spec_FindFrames.l1]
    have h8 : FL.length = 8 := rfl
    have e8 : wrap64 ((j : Int) + 8) = ((j + 8 : Nat) : Int) := by rw [w64 (by omega) (by omega)]; omega
    rw [e8, if_neg (by omega), pcs_short FL _ _ _ (by rw [List.length_drop, bl_len, h8]; omega) (by rw [List.length_drop, bl_len]; omega)]
    unfold stF
    split
    · simp [Gf]
    · rw [Gf_one]; simp
  | succ N ih =>
    intro d j k acc fr cur hd hN hj ha hf hk
    obtain ⟨k, rfl⟩ : ∃ m, k = m + 1 := ⟨k - 1, by omega⟩
    simp only [spec_FindFrames.l1]
    have h8 : FL.length = 8 := rfl
    have e8 : wrap64 ((j : Int) + 8) = ((j + 8 : Nat) : Int) := by rw [w64 (by omega) (by omega)]; omega
    rw [e8]
    by_cases hl : ((j + 8 : Nat) : Int) ≤ (s.size : Int)
    · have hjl : j < (bl s).length := by rw [bl_len]; omega
      have hpc : ∀ cur, pcs FL (s.size + 1) cur ((bl s).drop j) = if FL.isPrefixOf ((bl s).drop j) = true then cur :: pcs FL (s.size + 1) [] ((bl s).drop (j + 8)) else pcs FL (s.size + 1) (cur ++ [(bl s)[j]]) ((bl s).drop (j + 1)) := by
        intro cur
        conv => lhs; rw [List.drop_eq_getElem_cons hjl, pcs]
        rw [← List.drop_eq_getElem_cons hjl, h8, List.drop_drop]
        by_cases hp : FL.isPrefixOf ((bl s).drop j) = true
        · rw [if_pos hp, if_pos hp, pcs_fuel FL FL_ne s.size (s.size + 1) [] _ (by rw [List.length_drop, bl_len]; omega) (by rw [List.length_drop, bl_len]; omega)]
        · rw [if_neg hp, if_neg hp, pcs_fuel FL FL_ne s.size (s.size + 1) _ _ (by rw [List.length_drop, bl_len]; omega) (by rw [List.length_drop, bl_len]; omega)]
      rw [if_pos hl, if_pos (show (0 : Int) ≤ (j : Int) by omega), if_pos (show (j : Int) ≤ ((j + 8 : Nat) : Int) by omega)]
      unfold spec_flag.f
      rw [bsome, Int.toNat_natCast, Int.toNat_natCast, flag_tb, hpc cur]
      by_cases hp : FL.isPrefixOf ((bl s).drop j) = true
      · rw [if_pos hp, if_pos ((isFlag s j (by omega)).2 hp)]
        rcases hf with rfl | ⟨f, rfl, hfj, hcur⟩
        · rw [if_neg (by decide)]
          have := ih (d - 1) (j + 8) k acc (((j + 8 : Nat) : Int)) [] (by omega) (by omega) (by omega) (by omega) (Or.inr ⟨j + 8, rfl, by omega, by simp⟩) (by omega)
          rw [this]
          unfold stF
          rw [if_neg (by omega), if_pos (by decide), List.tail_cons]
        · have hnx : ∀ acc : List ByteArray, acc.length ≤ j + 1 → spec_FindFrames.l1 k s acc (((j + 8 : Nat) : Int)) (((j + 8 : Nat) : Int)) = some (acc ++ Gf (pcs FL (s.size + 1) [] ((bl s).drop (j + 8)))) := by
            intro acc ha2
            have := ih (d - 1) (j + 8) k acc (((j + 8 : Nat) : Int)) [] (by omega) (by omega) (by omega) (by omega) (Or.inr ⟨j + 8, rfl, by omega, by simp⟩) (by omega)
            rw [this]
            unfold stF
            rw [if_neg (by omega)]
          have hst : stF (f : Int) (cur :: pcs FL (s.size + 1) [] ((bl s).drop (j + 8))) = cur :: pcs FL (s.size + 1) [] ((bl s).drop (j + 8)) := by unfold stF; rw [if_neg (by omega)]
          have hcl : cur.length = j - f := by rw [hcur, List.length_take, List.length_drop, bl_len]; omega
          rw [hst, Gf_cons _ _ (pcs_ne FL _ _ _), if_pos (show (f : Int) ≥ 0 by omega)]
          by_cases hgt : (j : Int) > (f : Int)
          · rw [if_pos hgt, if_pos (show (0 : Int) ≤ (f : Int) by omega), if_pos (show (f : Int) ≤ (j : Int) by omega), if_pos (show (j : Int) ≤ (s.size : Int) by omega), Int.toNat_natCast, specU_some _ _ (by omega), bsome,
              if_pos (show acc.length < 8796093022208 by omega), hnx _ (by simp; omega), if_neg (show ¬ cur = [] from fun e => by rw [e] at hcl; simp at hcl; omega)]
            have hx : s.extract f j = tb cur := by
              apply bl_inj
              rw [bl_extract, bl_tb, hcur]
              intro x hx
              rw [hcur] at hx
              exact bl_byte s x (List.mem_of_mem_drop (List.mem_of_mem_take hx))
            rw [hx, List.append_assoc]
            rfl
          · rw [if_neg hgt, if_pos (show cur = [] from List.eq_nil_of_length_eq_zero (by omega)), hnx _ (by omega)]
      · rw [if_neg hp, if_neg (fun e => hp ((isFlag s j (by omega)).1 e)), w64s (by omega)]
        refine ih (d - 1) (j + 1) k acc fr _ (by clear hf; omega) (by clear hf; omega) (by clear hf; omega) (by clear hf; omega) ?_ (by clear hf; omega)
        rcases hf with rfl | ⟨f, rfl, hfj, hcur⟩
        · exact Or.inl rfl
        · refine Or.inr ⟨f, rfl, by omega, ?_⟩
          rw [hcur, show j + 1 - f = (j - f) + 1 by omega, List.take_add_one, List.getElem?_drop, show f + (j - f) = j by omega, List.getElem?_eq_getElem hjl]
          rfl
    · rw [if_neg hl, pcs_short FL _ _ _ (by rw [List.length_drop, bl_len, h8]; omega) (by rw [List.length_drop, bl_len]; omega)]
      unfold stF
      split
      · simp [Gf]
      · rw [Gf_one]; simp
theorem specF_l0 (s : ByteArray) (hs : s.size ≤ 300) : ∀ (d j k : Nat), s.size - j = d → j ≤ s.size → d + 4000 < k →
    spec_FindFrames.l0 k s (j : Int) = if ((bl s).drop j).all isBit = true then some (Gf ((pcs FL (s.size + 1) [] (bl s)).tail)) else some [] := by
  intro d
  induction d with
  | zero =>
    intro j k hd hj hk
    obtain ⟨k, rfl⟩ : ∃ m, k = m + 1 := ⟨k - 1, by omega⟩
    simp only [spec_FindFrames.l0]
    rw [if_neg (by omega), List.drop_eq_nil_of_le (by rw [bl_len]; omega), if_pos (show ([] : List Int).all isBit = true from rfl)]
    have := specF_l1 s hs s.size s.size 0 k [] (-1) [] (by omega) (by omega) (by omega) (by simp) (Or.inl rfl) (by omega)
    rw [show ((0 : Nat) : Int) = 0 by rfl, List.drop_zero, List.nil_append] at this
    rw [this]
    unfold stF
    rw [if_pos (by decide)]
  | succ d ih =>
    intro j k hd hj hk
    obtain ⟨k, rfl⟩ : ∃ m, k = m + 1 := ⟨k - 1, by omega⟩
    simp only [spec_FindFrames.l0]
    rw [if_pos (by omega), if_pos (by omega), w64s (by omega), ih (j + 1) k (by omega) (by omega) (by omega), bl_drop s j (by omega), List.all_cons]
    generalize bt s (j : Int) = c
    by_cases h1 : c = 48
    · rw [if_pos h1]; simp [isBit, h1]
    · rw [if_neg h1]
      by_cases h2 : c = 49
      · rw [if_pos h2]; simp [isBit, h2]
      · rw [if_neg h2]; simp [isBit, h1, h2]
theorem specF_some (s : ByteArray) (k : Nat) (hk : 5000 ≤ k) : spec_FindFrames.f k s = some (fnd s) := by
  unfold spec_FindFrames.f fnd
  by_cases h : (s.size : Int) > 300
  · rw [if_pos h, if_neg (fun x => by have := x.1; omega)]
  · rw [if_neg h]
    have := specF_l0 s (by omega) s.size 0 k (by omega) (by omega) (by omega)
    rw [show ((0 : Nat) : Int) = 0 by rfl, List.drop_zero] at this
    rw [this]
    by_cases hb : okBits s = true
    · rw [if_pos (show (bl s).all isBit = true from hb), if_pos ⟨by omega, hb⟩]
    · rw [if_neg (show ¬ (bl s).all isBit = true from hb), if_neg (fun x => hb x.2)]

theorem uout_sout (s : ByteArray) (hb : okBits s = true) (h4 : s.size ≤ 40) : uout (tb (stf 0 (bl s))) = (s, true) := by
  have h0 : (bl s).all isBit = true := hb
  have h1 := stf_bits (bl s) 0 h0
  have h2 := uim_stf (bl s) 0 h0 (by omega) (by omega)
  have h3 := stf_len (bl s) 0 (by omega) (by omega)
  rw [bl_len] at h3
  have e : bl (tb (stf 0 (bl s))) = stf 0 (bl s) := bl_tb_bits h1
  unfold uout
  rw [e, h2, if_pos, tb_bl]
  refine ⟨by rw [tb_len]; omega, okBits_tb h1, ?_, ?_⟩
  · rw [e, h2, bl_len]; exact h4
  · rw [e, h2]

/-! Frames: what the laws ask. -/
theorem eqTexts_l0 (a : List ByteArray) (hn : a.length ≤ 1000000) : ∀ (d j k : Nat), a.length - j = d → j ≤ a.length → d < k → laws_equalTexts.l0 k a a (j : Int) = some true := by
  intro d
  induction d with
  | zero =>
    intro j k hd hj hk
    obtain ⟨k, rfl⟩ : ∃ m, k = m + 1 := ⟨k - 1, by omega⟩
    simp only [laws_equalTexts.l0]
    rw [if_neg (by omega)]
  | succ d ih =>
    intro j k hd hj hk
    obtain ⟨k, rfl⟩ : ∃ m, k = m + 1 := ⟨k - 1, by omega⟩
    simp only [laws_equalTexts.l0]
    rw [if_pos (by omega), if_pos (by omega), if_pos (by omega), if_pos trivial, w64s (by omega)]
    exact ih (j + 1) k (by omega) (by omega) (by omega)
theorem eqTexts_some (a : List ByteArray) (hn : a.length ≤ 1000000) (k : Nat) (hk : a.length < k) : laws_equalTexts.f k a a = some true := by
  unfold laws_equalTexts.f
  rw [if_pos rfl]
  exact eqTexts_l0 a hn a.length 0 k rfl (by omega) hk
theorem Gf_len (ps : List (List Int)) : (Gf ps).length ≤ ps.length := by
  unfold Gf
  rw [List.length_map]
  have := List.length_filter_le (fun p : List Int => !p.isEmpty) ps.dropLast
  rw [List.length_dropLast] at this
  omega
theorem fnd_len (s : ByteArray) : (fnd s).length ≤ 302 := by
  unfold fnd
  split
  · rename_i h
    have h1 := pcs_len FL (s.size + 1) [] (bl s)
    have h2 := Gf_len ((pcs FL (s.size + 1) [] (bl s)).tail)
    rw [List.length_tail] at h2
    omega
  · simp
/-- Frames. -/
def okF (s : ByteArray) : Bool := (okBits s && decide (s.size ≤ 40)) && decide (s.size ≠ 0)
def cat (l : List ByteArray) : List Int := l.flatMap fun s => stf 0 (bl s) ++ FL
def fl (l : List ByteArray) : ByteArray := if l.all okF = true ∧ l.length ≤ 4 then tb (FL ++ cat l) else tb []
theorem rdOf_nat (l : List ByteArray) (j : Nat) (h : j < l.length) : rdOf ByteArray.empty l (j : Int) = l[j] := by
  unfold rdOf
  rw [Int.toNat_natCast, List.getD_eq_getElem?_getD, List.getElem?_eq_getElem h]
  rfl
theorem validF_l0 (l : List ByteArray) (hl : l.length ≤ 100000) (hs : ∀ s ∈ l, s.size ≤ 10000) : ∀ (d j k : Nat), l.length - j = d → j ≤ l.length → d + 20000 < k → spec_validFrames.l0 k l (j : Int) = some ((l.drop j).all okF && decide (l.length ≤ 4)) := by
  intro d
  induction d with
  | zero =>
    intro j k hd hj hk
    obtain ⟨k, rfl⟩ : ∃ m, k = m + 1 := ⟨k - 1, by omega⟩
    simp only [spec_validFrames.l0]
    rw [if_neg (by omega), List.drop_eq_nil_of_le (by omega)]
    simp only [List.all_nil, Bool.true_and, Option.some.injEq, decide_eq_decide]
    omega
  | succ d ih =>
    intro j k hd hj hk
    obtain ⟨k, rfl⟩ : ∃ m, k = m + 1 := ⟨k - 1, by omega⟩
    simp only [spec_validFrames.l0]
    have hm := hs l[j] (List.getElem_mem (by omega))
    rw [if_pos (by omega), if_pos (by omega), rdOf_nat l j (by omega), validBits_some _ (by omega) _ (by omega), bsome, w64s (by omega), ih (j + 1) k (by omega) (by omega) (by omega), List.drop_eq_getElem_cons (show j < l.length by omega), List.all_cons]
    generalize l[j] = s
    unfold okF
    cases h1 : (okBits s && decide (s.size ≤ 40)) with
    | false => rw [if_neg (by simp)]; simp
    | true =>
      rw [if_pos rfl]
      by_cases h0 : s.toList = ([] : List UInt8)
      · rw [if_pos h0]
        have := (toList_nil_iff s).1 h0
        simp [this]
      · rw [if_neg h0]
        have : s.size ≠ 0 := fun e => h0 ((toList_nil_iff s).2 e)
        simp [this]
theorem tb_app2 (a b c : List Int) : (tb a ++ tb b) ++ tb c = tb (a ++ (b ++ c)) := by rw [tb_append, tb_append, app_assoc]
theorem stfB {s : ByteArray} (h : okF s = true) : okBits s = true ∧ s.size ≤ 40 ∧ s.size ≠ 0 ∧ (stf 0 (bl s)).length ≤ 48 := by
  unfold okF at h
  simp only [Bool.and_eq_true, decide_eq_true_eq] at h
  have := stf_len (bl s) 0 (by omega) (by omega)
  rw [bl_len] at this
  exact ⟨h.1.1, h.1.2, h.2, by omega⟩
theorem specFl_l0 (l : List ByteArray) (hl : l.length ≤ 4) (ho : l.all okF = true) : ∀ (d j k : Nat) (acc : List Int), l.length - j = d → j ≤ l.length → acc.length ≤ 10 + 100 * j → d + 2000 < k →
    spec_FlagFrames.l0 k l (tb acc) (j : Int) = some (tb (acc ++ cat (l.drop j))) := by
  intro d
  induction d with
  | zero =>
    intro j k acc hd hj ha hk
    obtain ⟨k, rfl⟩ : ∃ m, k = m + 1 := ⟨k - 1, by omega⟩
    simp only [spec_FlagFrames.l0]
    rw [if_neg (by omega), List.drop_eq_nil_of_le (by omega)]
    simp [cat]
  | succ d ih =>
    intro j k acc hd hj ha hk
    obtain ⟨k, rfl⟩ : ∃ m, k = m + 1 := ⟨k - 1, by omega⟩
    simp only [spec_FlagFrames.l0]
    have h1 := stfB (List.all_eq_true.1 ho l[j] (List.getElem_mem (by omega)))
    rw [if_pos (by omega), if_pos (by omega), rdOf_nat l j (by omega), stuff_some _ (by omega) _ (by omega), bsome, if_pos (by rw [tb_len, tb_len]; omega)]
    unfold spec_flag.f
    rw [bsome, flag_tb, if_pos (by rw [ByteArray.size_append, tb_len, tb_len, tb_len]; simp [FL]; omega), tb_app2, w64s (by omega),
      ih (j + 1) k _ (by omega) (by omega) (by simp [FL]; omega) (by omega), List.drop_eq_getElem_cons (show j < l.length by omega)]
    generalize l[j] = s
    generalize l.drop (j + 1) = r
    simp [cat]
theorem specFl_some (l : List ByteArray) (hl : l.length ≤ 100000) (hs : ∀ s ∈ l, s.size ≤ 10000) (k : Nat) (hk : 130000 ≤ k) : spec_FlagFrames.f k l = some (fl l) := by
  unfold spec_FlagFrames.f spec_validFrames.f fl
  have := validF_l0 l hl hs l.length 0 k rfl (by omega) (by omega)
  rw [show ((0 : Nat) : Int) = 0 by rfl, List.drop_zero] at this
  rw [this, bsome]
  by_cases h : l.all okF = true ∧ l.length ≤ 4
  · rw [if_pos h, if_pos (by simp only [h.1, Bool.true_and, decide_eq_true_eq]; exact h.2)]
    unfold spec_flag.f
    have h2 := specFl_l0 l h.2 h.1 l.length 0 k FL rfl (by omega) (by simp [FL]) (by omega)
    rw [show ((0 : Nat) : Int) = 0 by rfl, List.drop_zero] at h2
    rw [bsome, flag_tb, h2]
  · rw [if_neg h, if_neg (by simp only [Bool.and_eq_true, decide_eq_true_eq]; exact h)]
    rfl
theorem implFl_l0 (l : List ByteArray) (hl : l.length ≤ 4) (hs : ∀ s ∈ l, s.size ≤ 100000000) : ∀ (d j k : Nat) (acc : List Int), l.length - j = d → j ≤ l.length → acc.length ≤ 10 + 100 * j → d + 2000 < k →
    impl_FlagFrames.l0 k (tb acc) l (l.length : Int) (j : Int) = some (if (l.drop j).all okF = true then tb (acc ++ cat (l.drop j)) else tb []) := by
  intro d
  induction d with
  | zero =>
    intro j k acc hd hj ha hk
    obtain ⟨k, rfl⟩ : ∃ m, k = m + 1 := ⟨k - 1, by omega⟩
    simp only [impl_FlagFrames.l0]
    rw [if_neg (by omega), List.drop_eq_nil_of_le (by omega)]
    simp [cat]
  | succ d ih =>
    intro j k acc hd hj ha hk
    obtain ⟨k, rfl⟩ : ∃ m, k = m + 1 := ⟨k - 1, by omega⟩
    simp only [impl_FlagFrames.l0]
    have hm := hs l[j] (List.getElem_mem (by omega))
    rw [if_pos (show (j : Int) < (l.length : Int) by omega), if_pos (show (0 : Int) ≤ (j : Int) by omega), if_pos (show (j : Int) < (l.length : Int) by omega), rdOf_nat l j (by omega), List.drop_eq_getElem_cons (show j < l.length by omega), List.all_cons]
    by_cases h0 : (l[j]).toList = ([] : List UInt8)
    · have := (toList_nil_iff l[j]).1 h0
      rw [if_pos h0, if_neg (by simp [okF, this])]
      rfl
    · have h00 : (l[j]).size ≠ 0 := fun e => h0 ((toList_nil_iff l[j]).2 e)
      rw [if_neg h0, valid_some _ (by omega), bsome]
      cases h1 : (okBits l[j] && decide ((l[j]).size ≤ 40)) with
      | false =>
        rw [if_neg (by simp), if_neg (by unfold okF; rw [h1]; simp)]
        rfl
      | true =>
        have hok : okF l[j] = true := by unfold okF; rw [h1]; simpa using h00
        have h2 := stfB hok
        rw [if_pos rfl, stuffed_some _ (by omega) h2.1 _ (by omega), bsome, flag_tb, if_pos (by rw [tb_len]; omega), if_pos (by rw [ByteArray.size_append, tb_len, tb_len, tb_len]; simp [FL]; omega), ← app_assoc, tb_app2, w64s (by omega),
          ih (j + 1) k _ (by omega) (by omega) (by simp [FL]; omega) (by omega), hok, Bool.true_and]
        generalize l[j] = s
        generalize l.drop (j + 1) = r
        simp [cat]
theorem implFl_some (l : List ByteArray) (hs : ∀ s ∈ l, s.size ≤ 100000000) (k : Nat) (hk : 3000 ≤ k) : impl_FlagFrames.f k l = some (fl l) := by
  unfold impl_FlagFrames.f fl
  by_cases h4 : (l.length : Int) > 4
  · rw [if_pos h4, if_neg (fun h => by have := h.2; omega)]; rfl
  · have h2 := implFl_l0 l (by omega) hs l.length 0 k FL rfl (by omega) (by simp [FL]) (by omega)
    rw [show ((0 : Nat) : Int) = 0 by rfl, List.drop_zero] at h2
    rw [if_neg h4, flag_tb, h2]
    by_cases h : l.all okF = true
    · rw [if_pos h, if_pos ⟨h, by omega⟩]
    · rw [if_neg h, if_neg (fun x => h x.1)]
theorem pcs_flag (n : Nat) (rest : List Int) (h : (FL ++ rest).length < n) : pcs FL n [] (FL ++ rest) = [] :: pcs FL n [] rest := by
  have := pcs_row [] 0 n [] rest (by omega) rfl (by simpa using h)
  simpa using this
theorem pcs_cat : ∀ (l : List ByteArray) (n : Nat) (rest : List Int), l.all okF = true → (cat l ++ rest).length < n → pcs FL n [] (cat l ++ rest) = l.map (fun s => stf 0 (bl s)) ++ pcs FL n [] rest := by
  intro l
  induction l with
  | nil => intro n rest _ _; rfl
  | cons s l ih =>
    intro n rest h hn
    simp only [List.all_cons, Bool.and_eq_true] at h
    have hs := stfB h.1
    have e : cat (s :: l) ++ rest = stf 0 (bl s) ++ (FL ++ (cat l ++ rest)) := by simp [cat]
    rw [e] at hn ⊢
    rw [pcs_row (stf 0 (bl s)) 0 n [] _ (by omega) (rok_stf _ _ hs.1 (by omega) (by omega)) hn, ih n rest h.2 (by simp only [List.length_append] at hn ⊢; omega)]
    rfl
theorem stf_ne (l : List Int) (n : Int) (h : l ≠ []) : stf n l ≠ [] := by
  cases l with
  | nil => exact absurd rfl h
  | cons c r =>
    unfold stf
    split
    · split <;> simp
    · simp
theorem Gf_cat : ∀ (l : List ByteArray) (ps : List (List Int)), l.all okF = true → ps ≠ [] → Gf (l.map (fun s => stf 0 (bl s)) ++ ps) = l ++ Gf ps := by
  intro l
  induction l with
  | nil => intro ps _ _; rfl
  | cons s l ih =>
    intro ps h hp
    simp only [List.all_cons, Bool.and_eq_true] at h
    have hs := stfB h.1
    have hne : stf 0 (bl s) ≠ [] := stf_ne _ _ (fun e => hs.2.2.1 (by rw [← bl_len, e]; rfl))
    rw [List.map_cons, List.cons_append, Gf_cons _ _ (by simp [hp]), if_neg hne, ih ps h.2 hp, uout_sout s hs.1 hs.2.1]
    rfl
theorem cat_bits : ∀ (l : List ByteArray), l.all okF = true → (cat l).all isBit = true := by
  intro l
  induction l with
  | nil => intro _; rfl
  | cons s l ih =>
    intro h
    simp only [List.all_cons, Bool.and_eq_true] at h
    have hs := stfB h.1
    rw [show cat (s :: l) = stf 0 (bl s) ++ (FL ++ cat l) by simp [cat], List.all_append, List.all_append, stf_bits _ _ hs.1, ih h.2]
    rfl
theorem cat_len : ∀ (l : List ByteArray) (m : Nat), (∀ s ∈ l, s.size ≤ m) → l.all okF = true → (cat l).length ≤ l.length * (m + m / 5 + 8) := by
  intro l
  induction l with
  | nil => intro _ _ _; simp [cat]
  | cons s l ih =>
    intro m hm h
    simp only [List.all_cons, Bool.and_eq_true] at h
    have h1 := ih m (fun x hx => hm x (List.mem_cons_of_mem _ hx)) h.2
    have h2 := hm s (List.mem_cons_self ..)
    have h3 := stf_len (bl s) 0 (by omega) (by omega)
    rw [bl_len] at h3
    rw [show cat (s :: l) = stf 0 (bl s) ++ (FL ++ cat l) by simp [cat]]
    simp only [List.length_append, List.length_cons]
    have h4 : FL.length = 8 := rfl
    rw [Nat.succ_mul]
    have h5 : (stf 0 (bl s)).length ≤ m + m / 5 := by omega
    omega
/-- Drawn frames: those that are valid are short. -/
theorem someBits_l0_short {b : List Int} : ∀ (d k : Nat) (s : ByteArray) (x p n : Int), RS b p n → n ≤ 10000 - d → x.toNat = d → x ≤ 100 → s.size ≤ 12 → d + 4 ≤ k →
    ∃ t q, spec_someBits.l0 k 12 s x b p = some (t, q) ∧ (okF t = true → t.size ≤ 12) := by
  intro d
  have fin : ∀ (k : Nat) (s : ByteArray) (p n : Int), RS b p n → n ≤ 10000 → s.size ≤ 12 → 2 ≤ k → ∃ t q, spec_someBits.j1 k s b p = some (t, q) ∧ (okF t = true → t.size ≤ 12) := by
    intro k s p n hR hn hs hk
    obtain ⟨k, rfl⟩ : ∃ m, k = m + 1 := ⟨k - 1, by omega⟩
    simp only [spec_someBits.j1]
    obtain ⟨r, hr, _, _, hR1⟩ := pick_some hR (by omega) 24 (by omega)
    rw [hr k (by omega), bsome]
    simp only []
    by_cases h0 : r = 0
    · rw [if_pos h0]
      obtain ⟨t, ht, hm, hR2⟩ := of_some hR1 (by omega) ([(⟨#[50]⟩ : ByteArray), (⟨#[120]⟩ : ByteArray), (⟨#[48, 48, 48, 48, 48, 48, 48, 48, 48, 48, 48, 48, 48, 48, 48, 48, 48, 48, 48, 48, 48, 48, 48, 48, 48, 48, 48, 48, 48, 48, 48, 48, 48, 48, 48, 48, 48, 48, 48, 48, 48]⟩ : ByteArray)]) (by simp) (by simp)
      have h1 : t.size ≤ 41 ∧ (okBits t = false ∨ t.size = 41) := by
        simp only [List.mem_cons, List.not_mem_nil, or_false] at hm
        rcases hm with rfl | rfl | rfl <;> decide
      rw [ht k (by omega), bsome]
      simp only []
      rw [if_pos (by omega)]
      refine ⟨_, _, rfl, fun h => ?_⟩
      obtain ⟨g1, g2, _⟩ := stfB h
      rw [ByteArray.size_append] at g2
      have g3 : okBits t = true := by
        unfold okBits at g1 ⊢
        rw [bl_append, List.all_append, Bool.and_eq_true] at g1
        exact g1.2
      rcases h1.2 with h2 | h2
      · rw [g3] at h2; cases h2
      · omega
    · rw [if_neg h0]
      exact ⟨_, _, rfl, fun _ => hs⟩
  induction d with
  | zero =>
    intro k s x p n hR hn hx hx2 hs hk
    obtain ⟨k, rfl⟩ : ∃ m, k = m + 1 := ⟨k - 1, by omega⟩
    simp only [spec_someBits.l0]
    rw [if_neg (by omega)]
    exact fin k s p n hR (by omega) hs (by omega)
  | succ d ih =>
    intro k s x p n hR hn hx hx2 hs hk
    obtain ⟨k, rfl⟩ : ∃ m, k = m + 1 := ⟨k - 1, by omega⟩
    simp only [spec_someBits.l0]
    rw [if_pos (by omega)]
    by_cases hm : (s.size : Int) < 12
    · rw [if_pos hm]
      obtain ⟨t, ht, htm, hR1⟩ := of_some hR (by omega) ([(⟨#[48]⟩ : ByteArray), (⟨#[49]⟩ : ByteArray), (⟨#[49]⟩ : ByteArray), (⟨#[49]⟩ : ByteArray)]) (by simp) (by simp)
      have h1 : t.size = 1 := by
        simp only [List.mem_cons, List.not_mem_nil, or_false] at htm
        rcases htm with rfl | rfl | rfl | rfl <;> rfl
      rw [ht k (by omega), bsome]
      simp only []
      rw [if_pos (by omega), w64 (n := x - 1) (by omega) (by omega)]
      exact ih k (s ++ t) (x - 1) (p + 1) (n + 1) hR1 (by omega) (by omega) (by omega) (by rw [ByteArray.size_append, h1]; omega) (by omega)
    · rw [if_neg hm]
      exact fin k s p n hR (by omega) hs (by omega)
theorem someBits_short {b : List Int} {p n : Int} (hR : RS b p n) (hn : n ≤ 5000) (k : Nat) (hk : 100 ≤ k) :
    ∃ t q, spec_someBits.f k b p 12 = some (t, q) ∧ t.size ≤ 81 ∧ RS b q (n + 50) ∧ (okF t = true → t.size ≤ 12) := by
  obtain ⟨t, q, h1, h2, h3⟩ := someBits_some hR hn 12 k hk
  refine ⟨t, q, h1, h2, h3, ?_⟩
  unfold spec_someBits.f at h1
  obtain ⟨r, hr, hm, hR1⟩ := one_some hR (by omega) ([12, 8, 20, 4, 1, 0, 40] : List Int) (by simp) (by simp)
  have h40 : 0 ≤ r ∧ r ≤ 40 := by
    simp only [List.mem_cons, List.not_mem_nil, or_false] at hm
    omega
  rw [hr k (by omega), bsome] at h1
  obtain ⟨t2, q2, g1, g2⟩ := someBits_l0_short r.toNat k (⟨#[]⟩ : ByteArray) r (p + 1) (n + 1) hR1 (by omega) rfl (by omega) (by decide) (by omega)
  simp only [] at h1
  rw [g1] at h1
  cases h1
  exact g2
theorem someFrames_l0 {b : List Int} : ∀ (d k : Nat) (acc : List ByteArray) (x p n : Int), RS b p n → n ≤ 4000 - 50 * d → x.toNat = d → x ≤ 5 → acc.length + d ≤ 5 → (∀ s ∈ acc, s.size ≤ 81 ∧ (okF s = true → s.size ≤ 12)) → d + 200 ≤ k →
    ∃ t q, spec_someFrames.l0 k acc x b p = some (t, q) ∧ t.length ≤ 5 ∧ RS b q (n + 50 * d) ∧ (∀ s ∈ t, s.size ≤ 81 ∧ (okF s = true → s.size ≤ 12)) := by
  intro d
  induction d with
  | zero =>
    intro k acc x p n hR hn hx hx2 ha hs hk
    obtain ⟨k, rfl⟩ : ∃ m, k = m + 1 := ⟨k - 1, by omega⟩
    simp only [spec_someFrames.l0]
    rw [if_neg (by omega)]
    exact ⟨_, _, rfl, by omega, hR.le (by omega), hs⟩
  | succ d ih =>
    intro k acc x p n hR hn hx hx2 ha hs hk
    obtain ⟨k, rfl⟩ : ∃ m, k = m + 1 := ⟨k - 1, by omega⟩
    simp only [spec_someFrames.l0]
    obtain ⟨t, q, h1, h2, h3, h4⟩ := someBits_short hR (by omega) k (by omega)
    rw [if_pos (by omega), h1, bsome]
    simp only []
    rw [if_pos (show acc.length < 8796093022208 by omega), w64 (n := x - 1) (by omega) (by omega)]
    obtain ⟨t2, q2, g1, g2, g3, g4⟩ := ih k (acc ++ [t]) (x - 1) q (n + 50) h3 (by omega) (by omega) (by omega) (by simp; omega) (fun s hs2 => by
      rcases List.mem_append.1 hs2 with h | h
      · exact hs s h
      · rw [List.mem_singleton.1 h]; exact ⟨h2, h4⟩) (by omega)
    exact ⟨t2, q2, g1, g2, g3.le (by omega), g4⟩
theorem someFrames_some {b : List Int} {p n : Int} (hR : RS b p n) (hn : n ≤ 1000) (k : Nat) (hk : 300 ≤ k) :
    ∃ t q, spec_someFrames.f k b p = some (t, q) ∧ t.length ≤ 5 ∧ RS b q (n + 300) ∧ (∀ s ∈ t, s.size ≤ 81 ∧ (okF s = true → s.size ≤ 12)) := by
  unfold spec_someFrames.f
  obtain ⟨r, hr, hm, hR1⟩ := one_some hR (by omega) ([2, 3, 1, 4, 0, 5] : List Int) (by simp) (by simp)
  have h40 : 0 ≤ r ∧ r ≤ 5 := by
    simp only [List.mem_cons, List.not_mem_nil, or_false] at hm
    omega
  rw [hr k (by omega), bsome]
  obtain ⟨t, q, h1, h2, h3, h4⟩ := someFrames_l0 r.toNat k [] r (p + 1) (n + 1) hR1 (by omega) rfl (by omega) (by simp; omega) (by simp) (by omega)
  exact ⟨t, q, h1, h2, h3.le (by omega), h4⟩

/-! A string that is turned a little. -/
theorem mutate_some {b : List Int} {p n : Int} (hR : RS b p n) (hn : n ≤ 5000) (s : ByteArray) (hs : s.size ≤ 100000) (k : Nat) (hk : 10 ≤ k) :
    ∃ t q, spec_mutate.f k b p s = some (t, q) ∧ t.size ≤ s.size + 1 ∧ RS b q (n + 3) := by
  unfold spec_mutate.f
  rw [w64 (n := (s.size : Int) + 1) (by omega) (by omega)]
  obtain ⟨r, hr, r0, r1, hR1⟩ := pick_some hR (by omega) ((s.size : Int) + 1) (by omega)
  have r2 := r1 (by omega)
  rw [hr k (by omega), bsome]
  simp only []
  obtain ⟨u, hu, u0, u1, hR2⟩ := pick_some hR1 (by omega) 5 (by omega)
  rw [hu k (by omega), bsome]
  simp only []
  obtain ⟨k, rfl⟩ : ∃ m, k = m + 1 := ⟨k - 1, by omega⟩
  have A : spec_mutate.j0 (k + 1) s r u true b (p + 1 + 1) = some (s, p + 1 + 1) ∨ ∃ t, spec_mutate.j0 (k + 1) s r u true b (p + 1 + 1) = some (t, p + 1 + 1 + 1) ∧ t.size ≤ s.size + 1 ∧ RS b (p + 1 + 1 + 1) (n + 3) := by
    simp only [spec_mutate.j0, if_true]
    by_cases hlt : r < (s.size : Int)
    · right
      rw [if_pos hlt, if_pos r0, if_pos (by omega)]
      obtain ⟨t, ht, hm, hR3⟩ := of_some hR2 (by omega) ([(⟨#[48]⟩ : ByteArray), (⟨#[49]⟩ : ByteArray), (⟨#[50]⟩ : ByteArray), (⟨#[44]⟩ : ByteArray), (⟨#[120]⟩ : ByteArray), (⟨#[32]⟩ : ByteArray)]) (by simp) (by simp)
      have h1 : t.size = 1 := by
        simp only [List.mem_cons, List.not_mem_nil, or_false] at hm
        rcases hm with rfl | rfl | rfl | rfl | rfl | rfl <;> rfl
      rw [ht k (by omega), bsome]
      simp only []
      have e1 : (s.extract 0 r.toNat).size = r.toNat := by rw [ByteArray.size_extract]; omega
      have e2 : (s.extract (r + 1).toNat s.size).size = s.size - (r + 1).toNat := by rw [ByteArray.size_extract]; omega
      rw [if_pos (by omega), w64 (n := r + 1) (by omega) (by omega), if_pos (by omega), if_pos (by omega), if_pos (by rw [ByteArray.size_append, e1, e2, h1]; omega)]
      refine ⟨_, rfl, ?_, hR3.le (by omega)⟩
      rw [ByteArray.size_append, ByteArray.size_append, e1, e2, h1]
      omega
    · left
      rw [if_neg hlt]
  have B : u ≠ 0 → u ≠ 1 → ∃ t q, spec_mutate.j0 (k + 1) s r u false b (p + 1 + 1) = some (t, q) ∧ t.size ≤ s.size + 1 ∧ RS b q (n + 3) := by
    intro _ _
    simp only [spec_mutate.j0, Bool.false_eq_true, if_false]
    by_cases h2 : u = 2
    · rw [if_pos h2, if_pos r0, if_pos (by omega)]
      exact ⟨_, _, rfl, by rw [ByteArray.size_extract]; omega, hR2.le (by omega)⟩
    · rw [if_neg h2]
      by_cases h3 : u = 3
      · rw [if_pos h3]
        obtain ⟨t, ht, hm, hR3⟩ := of_some hR2 (by omega) ([(⟨#[48]⟩ : ByteArray), (⟨#[49]⟩ : ByteArray), (⟨#[32]⟩ : ByteArray), (⟨#[120]⟩ : ByteArray)]) (by simp) (by simp)
        have h1 : t.size = 1 := by
          simp only [List.mem_cons, List.not_mem_nil, or_false] at hm
          rcases hm with rfl | rfl | rfl | rfl <;> rfl
        rw [ht k (by omega), bsome]
        simp only []
        rw [if_pos (by omega)]
        exact ⟨_, _, rfl, by rw [ByteArray.size_append]; omega, hR3.le (by omega)⟩
      · rw [if_neg h3]
        exact ⟨_, _, rfl, by omega, hR2.le (by omega)⟩
  have A' : ∃ t q, spec_mutate.j0 (k + 1) s r u true b (p + 1 + 1) = some (t, q) ∧ t.size ≤ s.size + 1 ∧ RS b q (n + 3) := by
    rcases A with h | ⟨t, h1, h2, h3⟩
    · exact ⟨_, _, h, by omega, hR2.le (by omega)⟩
    · exact ⟨_, _, h1, h2, h3⟩
  by_cases h0 : u = 0
  · rw [if_pos h0, show (u == 0) = true by simpa using h0]
    exact A'
  · rw [if_neg h0]
    by_cases h1 : u = 1
    · rw [show (u == 1) = true by simpa using h1]; exact A'
    · rw [show (u == 1) = false by simpa using h1]; exact B h0 h1

theorem Gf_valid (ps : List (List Int)) : ∀ x ∈ Gf ps, okBits x = true ∧ x.size ≤ 40 := by
  intro x hx
  unfold Gf at hx
  obtain ⟨p, _, rfl⟩ := List.mem_map.1 hx
  unfold uout
  split
  · rename_i h
    have hb := uim_bits (bl (tb p)) 0 h.2.1
    exact ⟨okBits_tb hb, by simp only [tb_len]; exact h.2.2.1⟩
  · exact ⟨rfl, by decide⟩
theorem Gf_tail (ps : List (List Int)) : (Gf ps.tail).length ≤ (Gf ps).length := by
  cases ps with
  | nil => exact Nat.le_refl _
  | cons p ps =>
    rw [List.tail_cons]
    by_cases h : ps = []
    · rw [h]; simp [Gf]
    · rw [Gf_cons _ _ h]
      split
      · exact Nat.le_refl _
      · simp
theorem findLaw_l0 (s : ByteArray) (hs : s.size ≤ 10000) (ho : fnd s ≠ []) : ∀ (d j k : Nat), (fnd s).length - j = d → j ≤ (fnd s).length → d + 5000 < k → laws_FnFindFrames.l0 k s (fnd s) (j : Int) = some true := by
  have hl := fnd_len s
  have hgood : s.size ≤ 300 ∧ okBits s = true := by
    by_cases h : s.size ≤ 300 ∧ okBits s = true
    · exact h
    · exact absurd (show fnd s = [] by unfold fnd; rw [if_neg h]) ho
  have hv : ∀ x ∈ fnd s, okBits x = true ∧ x.size ≤ 40 := by
    intro x hx
    unfold fnd at hx
    rw [if_pos hgood] at hx
    exact Gf_valid _ x hx
  intro d
  induction d with
  | zero =>
    intro j k hd hj hk
    obtain ⟨k, rfl⟩ : ∃ m, k = m + 1 := ⟨k - 1, by omega⟩
    simp only [laws_FnFindFrames.l0]
    have hx : (tb FL ++ s).size = 8 + s.size := by rw [ByteArray.size_append, tb_len]; rfl
    rw [if_neg (by omega), if_pos (by omega), flag_tb, implF_some _ (by omega) _ (by omega), bsome, w64 (by omega) (by omega)]
    by_cases h3 : (s.size : Int) + 8 > 300
    · rw [if_pos h3]
    · rw [if_neg h3]
      have hfb : okBits (tb FL ++ s) = true := by
        unfold okBits
        rw [bl_append, bl_tb_bits FL_bits, List.all_append]
        rw [show (bl s).all isBit = true from hgood.2]
        rfl
      have e : (fnd s).length ≤ (fnd (tb FL ++ s)).length := by
        unfold fnd
        rw [if_pos hgood, if_pos ⟨by omega, hfb⟩, bl_append, bl_tb_bits FL_bits, hx, pcs_flag _ _ (by rw [List.length_append, bl_len]; simp [FL]), List.tail_cons,
          pcs_fuel FL FL_ne (8 + s.size + 1) (s.size + 1) [] (bl s) (by rw [bl_len]; omega) (by rw [bl_len]; omega)]
        exact Gf_tail _
      simp only [Option.some.injEq, decide_eq_true_eq]
      omega
  | succ d ih =>
    intro j k hd hj hk
    obtain ⟨k, rfl⟩ : ∃ m, k = m + 1 := ⟨k - 1, by omega⟩
    simp only [laws_FnFindFrames.l0]
    have hm := hv (fnd s)[j] (List.getElem_mem (by omega))
    rw [if_pos (by omega), if_pos (by omega), rdOf_nat _ j (by omega), valid_some _ (by omega), bsome, hm.1, decide_eq_true hm.2]
    rw [if_pos (by rfl), w64s (by omega)]
    exact ih (j + 1) k (by omega) (by omega) (by omega)
theorem fl_size (t : List ByteArray) (h : ∀ s ∈ t, okF s = true → s.size ≤ 12) : (fl t).size ≤ 100 := by
  unfold fl
  split
  · rename_i hh
    have hc := cat_len t 12 (fun s hs => h s hs (List.all_eq_true.1 hh.1 s hs)) hh.1
    have h8 : FL.length = 8 := rfl
    rw [tb_len, List.length_append, h8]
    omega
  · decide
theorem drawFF_some (l : List Int) (h : ∀ x ∈ l, (Lit.int .u8 x).wf = true) (k : Nat) (hk : 150000 ≤ k) : ∃ s, spec_DrawFindFrames.f k l = some s ∧ s.size ≤ 1000 := by
  obtain ⟨b, hb, hR⟩ := newReader_some l h
  unfold spec_DrawFindFrames.f
  rw [hb, bsome]
  simp only []
  obtain ⟨t, q, h1, h2, h3, h4⟩ := someFrames_some hR (by omega) k (by omega)
  rw [h1, bsome]
  simp only []
  have hfs := fl_size t (fun s hs => (h4 s hs).2)
  rw [specFl_some t (by omega) (fun s hs => by have := (h4 s hs).1; omega) _ (by omega), bsome]
  obtain ⟨r, hr, r0, r1, hR1⟩ := pick_some h3 (by omega) 4 (by omega)
  rw [hr k (by omega), bsome]
  simp only []
  by_cases h0 : r = 0
  · rw [if_pos h0]
    obtain ⟨m, q2, g1, g2, _⟩ := mutate_some hR1 (by omega) (fl t) (by omega) k (by omega)
    rw [g1, bsome]
    exact ⟨_, rfl, by simp only []; omega⟩
  · rw [if_neg h0]
    by_cases h01 : r = 1
    · rw [if_pos h01]
      obtain ⟨a, q3, a1, a2, a3⟩ := someBits_some hR1 (by omega) 8 k (by omega)
      rw [a1, bsome]
      simp only []
      rw [if_pos (by omega)]
      unfold spec_flag.f
      rw [bsome, flag_tb]
      have h8 : (tb FL).size = 8 := rfl
      rw [if_pos (by rw [ByteArray.size_append]; omega)]
      obtain ⟨c, q4, c1, c2, c3⟩ := someBits_some a3 (by omega) 8 k (by omega)
      rw [c1, bsome]
      simp only []
      rw [if_pos (by rw [ByteArray.size_append, ByteArray.size_append]; omega)]
      exact ⟨_, rfl, by rw [ByteArray.size_append, ByteArray.size_append, ByteArray.size_append]; omega⟩
    · rw [if_neg h01]
      exact ⟨_, rfl, by omega⟩
theorem FnFindFrames : laws_FnFindFrames.Pure := by
  intro l _ _ hw
  obtain ⟨s, hs, hl⟩ := drawFF_some l hw 200001 (by omega)
  refine ⟨200001, ?_⟩
  unfold laws_FnFindFrames.f
  have hfl := fnd_len s
  split
  · rfl
  · rw [hs, bsome, implF_some s (by omega) _ (by omega), bsome, specF_some s _ (by omega), bsome, eqTexts_some _ (by omega) _ (by omega), bsome, if_pos rfl, show (200001 : Nat) = 200000 + 1 by rfl]
    simp only [laws_FnFindFrames.j0]
    by_cases h0 : fnd s = []
    · rw [if_pos (by rw [h0]; rfl), specF_some s _ (by omega), bsome, eqTexts_some _ (by omega) _ (by omega), bsome]
    · have h1 : (fnd s).length ≠ 0 := fun e => h0 (List.length_eq_zero_iff.1 e)
      rw [if_neg (by simp; exact h0)]
      exact findLaw_l0 s (by omega) h0 _ 0 _ rfl (by omega) (by omega)

end Go.Proofs.YtbgchgjefohpoaaDoor.Pure
