/- Which strings are bits, and what is stuffed. -/
import Derived.Test.YtbgchgjefohpoaaDoorPx1
import Derived.Test.YtbgchgjefohpoaaDoorPx2
import Derived.Test.YtbgchgjefohpoaaDoorPx20
import Derived.Test.YtbgchgjefohpoaaDoorPx21
import Derived.Test.YtbgchgjefohpoaaDoorPx23
import Derived.Test.YtbgchgjefohpoaaDoorPx3
namespace Go.Proofs.YtbgchgjefohpoaaDoor.Pure
open Go.RowKit Go.Proofs.YtbgchgjefohpoaaDoor.P Go.Proofs.YtbgchgjefohpoaaDoorW.PrintWords Go.Proofs.YtbgchgjefohpoaaDoorW.PrintLast
set_option linter.unusedVariables false
set_option linter.unusedSimpArgs false

/-! The reader of the drawn arguments: what is picked lies in its range, whatever the code. -/

theorem w64 {n : Int} (h0 : -9223372036854775808 ≤ n) (h1 : n ≤ 9223372036854775807) : wrap64 n = n := by unfold wrap64; omega

theorem xor_nonneg {a b : Int} (ha : 0 ≤ a) (ha' : a < 9223372036854775808) (hb : 0 ≤ b) (hb' : b < 9223372036854775808) : 0 ≤ Go.bits .xor .i64 a b := by
  obtain ⟨x, rfl⟩ := Int.eq_ofNat_of_zero_le ha
  obtain ⟨y, rfl⟩ := Int.eq_ofNat_of_zero_le hb
  have h1 : x ^^^ y < 2 ^ 63 := Nat.xor_lt_two_pow (by omega) (by omega)
  have hx : x % 2 ^ IntKind.i64.bits = x := Nat.mod_eq_of_lt (by simp [IntKind.bits]; omega)
  have hy : y % 2 ^ IntKind.i64.bits = y := Nat.mod_eq_of_lt (by simp [IntKind.bits]; omega)
  simp only [Go.bits, BitVec.ofInt_natCast, BitVec.toNat_xor, BitVec.toNat_ofNat, hx, hy]
  generalize x ^^^ y = z at *
  have e : (↑z : Int) % 2 ^ 64 = z := Int.emod_eq_of_lt (by omega) (by omega)
  simp only [IntKind.wrap, IntKind.bits, IntKind.signed, e]
  rw [if_neg (by simp; omega)]
  omega

/-- A reader's state: bytes, few, and a place. -/
structure RS (b : List Int) (p n : Int) : Prop where
  (len : b.length ≤ 2000) (byte : ∀ x ∈ b, 0 ≤ x ∧ x ≤ 255) (p0 : 0 ≤ p) (pn : p ≤ n)

theorem RS.le {b : List Int} {p n m : Int} (h : RS b p n) (hm : n ≤ m) : RS b p m := ⟨h.len, h.byte, h.p0, Int.le_trans h.pn hm⟩

theorem rd_mem {b : List Int} {i : Int} (h0 : 0 ≤ i) (h1 : i < b.length) : rd b i ∈ b := by
  unfold rd
  rw [List.getD_eq_getElem?_getD, List.getElem?_eq_getElem (by omega)]
  exact List.getElem_mem _

theorem rd_byte {b : List Int} (h : ∀ x ∈ b, 0 ≤ x ∧ x ≤ 255) (i : Int) : 0 ≤ rd b i ∧ rd b i ≤ 255 := by
  by_cases hi : i.toNat < b.length
  · unfold rd
    rw [List.getD_eq_getElem?_getD, List.getElem?_eq_getElem hi]
    exact h _ (List.getElem_mem _)
  · unfold rd
    rw [List.getD_eq_getElem?_getD, List.getElem?_eq_none (by omega)]
    simp

theorem newReader_some (l : List Int) (h : ∀ x ∈ l, (Lit.int .u8 x).wf = true) : ∃ b, spec_newReader.f l = some (b, 0) ∧ RS b 0 0 := by
  have hb : ∀ x ∈ l, 0 ≤ x ∧ x ≤ 255 := by
    intro x hx
    have := h x hx
    simp [Lit.wf, IntKind.min, IntKind.max, IntKind.signed, IntKind.bits] at this
    omega
  unfold spec_newReader.f
  split
  · rw [if_pos (by omega)]
    exact ⟨_, rfl, by simp; omega, fun x hx => hb x (List.mem_of_mem_take hx), by omega, by omega⟩
  · exact ⟨_, rfl, by omega, hb, by omega, by omega⟩

/-- A number picked: in its range. -/
theorem pick_some {b : List Int} {p n : Int} (h : RS b p n) (hn : n ≤ 1000000000) (m : Int) (hm : m ≤ 1000000000000) : ∃ r, (∀ k, 1 ≤ k → spec_reader_pick.f k b p m = some (r, p + 1)) ∧ 0 ≤ r ∧ (1 ≤ m → r < m) ∧ RS b (p + 1) (n + 1) := by
  have p0 := h.p0; have pn := h.pn; have hl := h.len
  have hR : RS b (p + 1) (n + 1) := ⟨hl, h.byte, by omega, by omega⟩
  have e1 : wrap64 (p + 1) = p + 1 := w64 (by omega) (by omega)
  have e2 : wrap64 (p + 1 - 1) = p := by rw [w64 (by omega) (by omega)]; omega
  by_cases hz : m < 1
  · refine ⟨0, fun k hk => ?_, by omega, by omega, hR⟩
    obtain ⟨k, rfl⟩ : ∃ j, k = j + 1 := ⟨k - 1, by omega⟩
    unfold spec_reader_pick.f
    rw [if_pos hz, e1]
    simp only [spec_reader_pick.j0, if_true]
  · by_cases hb : (b.length : Int) = 0
    · refine ⟨0, fun k hk => ?_, by omega, by omega, hR⟩
      obtain ⟨k, rfl⟩ : ∃ j, k = j + 1 := ⟨k - 1, by omega⟩
      unfold spec_reader_pick.f
      rw [if_neg hz, e1]
      have : ((b.length : Int) == 0) = true := by simpa using hb
      rw [this]
      simp only [spec_reader_pick.j0, if_true]
    · have hb' : ((b.length : Int) == 0) = false := by simpa using hb
      by_cases hlt : p < (b.length : Int)
      · obtain ⟨x0, x1⟩ := rd_byte h.byte p
        refine ⟨Int.tmod (rd b p) m, fun k hk => ?_, ?_, ?_, hR⟩
        · obtain ⟨k, rfl⟩ : ∃ j, k = j + 1 := ⟨k - 1, by omega⟩
          unfold spec_reader_pick.f
          rw [if_neg hz, e1, hb']
          simp only [spec_reader_pick.j0, Bool.false_eq_true, if_false, e2]
          rw [if_pos hlt, if_pos p0, if_neg (by omega), w64 (n := rd b p) (by omega) (by omega)]
        · exact Int.tmod_nonneg _ x0
        · intro _; exact Int.tmod_lt_of_pos _ (by omega)
      · have q0 : 0 ≤ Int.tmod p (b.length : Int) := Int.tmod_nonneg _ p0
        have q1 : Int.tmod p (b.length : Int) < b.length := Int.tmod_lt_of_pos _ (by omega)
        have e3 : wrap64 (p * 7) = p * 7 := w64 (by omega) (by omega)
        have e4 : wrap64 (p * 7 + 3) = p * 7 + 3 := w64 (by omega) (by omega)
        have s0 : 0 ≤ Int.tmod (p * 7 + 3) (b.length : Int) := Int.tmod_nonneg _ (by omega)
        have s1 : Int.tmod (p * 7 + 3) (b.length : Int) < b.length := Int.tmod_lt_of_pos _ (by omega)
        obtain ⟨x0, x1⟩ := rd_byte h.byte (Int.tmod p (b.length : Int))
        obtain ⟨y0, y1⟩ := rd_byte h.byte (Int.tmod (p * 7 + 3) (b.length : Int))
        have d0 : 0 ≤ Int.tdiv p (b.length : Int) := Int.tdiv_nonneg p0 (by omega)
        have d1 : Int.tdiv p (b.length : Int) ≤ p := by
          rw [Int.tdiv_eq_ediv_of_nonneg p0]
          exact Int.ediv_le_self _ p0
        generalize hxe : rd b (Int.tmod p (b.length : Int)) = x at *
        generalize hye : rd b (Int.tmod (p * 7 + 3) (b.length : Int)) = y at *
        generalize hde : Int.tdiv p (b.length : Int) = d at *
        have t0 : 0 ≤ Int.tdiv (x * 131 + y * 1117 + p * 29 + d * 53) 64 := Int.tdiv_nonneg (by omega) (by omega)
        have t1 : Int.tdiv (x * 131 + y * 1117 + p * 29 + d * 53) 64 ≤ x * 131 + y * 1117 + p * 29 + d * 53 := by
          rw [Int.tdiv_eq_ediv_of_nonneg (by omega)]
          exact Int.ediv_le_self _ (by omega)
        have hx := xor_nonneg (a := x * 131 + y * 1117 + p * 29 + d * 53) (b := Int.tdiv (x * 131 + y * 1117 + p * 29 + d * 53) 64) (by omega) (by omega) t0 (by omega)
        refine ⟨Int.tmod (Go.bits .xor .i64 (x * 131 + y * 1117 + p * 29 + d * 53) (Int.tdiv (x * 131 + y * 1117 + p * 29 + d * 53) 64)) m, fun k hk => ?_, Int.tmod_nonneg _ hx, fun _ => Int.tmod_lt_of_pos _ (by omega), hR⟩
        obtain ⟨k, rfl⟩ : ∃ j, k = j + 1 := ⟨k - 1, by omega⟩
        unfold spec_reader_pick.f
        rw [if_neg hz, e1, hb']
        simp only [spec_reader_pick.j0, Bool.false_eq_true, if_false, e2]
        rw [if_neg hlt, if_neg hb, if_pos q0, if_pos q1, e3, e4, if_pos s0, if_pos s1, if_neg (by omega)]
        rw [hxe, hye, hde, w64 (n := x) (by omega) (by omega), w64 (n := y) (by omega) (by omega), w64 (n := x * 131) (by omega) (by omega), w64 (n := y * 1117) (by omega) (by omega),
          w64 (n := x * 131 + y * 1117) (by omega) (by omega), w64 (n := p * 29) (by omega) (by omega), w64 (n := x * 131 + y * 1117 + p * 29) (by omega) (by omega),
          w64 (n := d) (by omega) (by omega), w64 (n := d * 53) (by omega) (by omega), w64 (n := x * 131 + y * 1117 + p * 29 + d * 53) (by omega) (by omega),
          w64 (n := Int.tdiv (x * 131 + y * 1117 + p * 29 + d * 53) 64) (by omega) (by omega)]

/-- One of some numbers, picked. -/
theorem one_some {b : List Int} {p n : Int} (h : RS b p n) (hn : n ≤ 1000000000) (l : List Int) (hl : 1 ≤ l.length) (hm : l.length ≤ 1000000) : ∃ r, (∀ k, 1 ≤ k → spec_reader_one.f k b p l = some (r, p + 1)) ∧ r ∈ l ∧ RS b (p + 1) (n + 1) := by
  obtain ⟨r, hr, r0, r1, hR⟩ := pick_some h hn (l.length : Int) (by omega)
  refine ⟨rd l r, fun k hk => ?_, rd_mem r0 (r1 (by omega)), hR⟩
  unfold spec_reader_one.f
  rw [hr k hk]
  simp only [Option.bind_some]
  rw [if_pos r0, if_pos (r1 (by omega))]

/-! Lists of numbers: held against each other, and bytes. -/

theorem rd_nat (l : List Int) (j : Nat) (h : j < l.length) : rd l (j : Int) = l[j] := by
  unfold rd; rw [Int.toNat_natCast, List.getD_eq_getElem?_getD, List.getElem?_eq_getElem h]; rfl

theorem w64s {j : Nat} (h : j ≤ 1000000000000) : wrap64 ((j : Int) + 1) = ((j + 1 : Nat) : Int) := by rw [w64 (by omega) (by omega)]; omega

/-- Not by unfolding: the kernel then has nothing to count. -/
theorem bsome {α β : Type} (a : α) (f : α → Option β) : (some a).bind f = f a := by
  cases h : (some a).bind f <;> simp_all

def inB (x : Int) : Bool := decide (0 ≤ x) && decide (x ≤ 255)

/-! Strings as the lists of their bytes. -/
def bl (s : ByteArray) : List Int := s.data.toList.map fun b => (b.toNat : Int)
theorem bl_len (s : ByteArray) : (bl s).length = s.size := by unfold bl; rw [List.length_map]; rfl
theorem bt_nat (s : ByteArray) (j : Nat) (h : j < s.size) : bt s (j : Int) = (bl s)[j]'(by rw [bl_len]; exact h) := by
  unfold bt bl
  rw [dif_pos (by simpa using h)]
  simp [ByteArray.getElem_eq_getElem_data]
theorem bl_byte (s : ByteArray) : ∀ x ∈ bl s, 0 ≤ x ∧ x ≤ 255 := by
  intro x hx
  obtain ⟨b, _, rfl⟩ := List.mem_map.1 hx
  have := b.toNat_lt
  omega
theorem bl_append (a b : ByteArray) : bl (a ++ b) = bl a ++ bl b := by simp [bl, ByteArray.data_append]
theorem bl_inj {a b : ByteArray} (h : bl a = bl b) : a = b := by
  have : a.data.toList = b.data.toList := by
    unfold bl at h
    exact (List.map_inj_right (fun x y e => UInt8.toNat_inj.1 (Int.ofNat.inj e))).1 h
  have h2 : a.data = b.data := Array.toList_inj.1 this
  cases a; cases b; simp_all
theorem bl_drop (s : ByteArray) (j : Nat) (h : j < s.size) : (bl s).drop j = bt s (j : Int) :: (bl s).drop (j + 1) := by
  rw [bt_nat s j h, List.drop_eq_getElem_cons (by rw [bl_len]; exact h)]

theorem dropWhile_all {α : Type} (p : α → Bool) : ∀ l : List α, l.all p = true → l.dropWhile p = []
  | [], _ => rfl
  | a :: l, h => by
    simp only [List.all_cons, Bool.and_eq_true] at h
    rw [List.dropWhile_cons, if_pos h.1]
    exact dropWhile_all p l h.2
theorem dropWhile_some {α : Type} (p : α → Bool) : ∀ l : List α, (∃ x ∈ l, p x = false) → ∃ x ∈ l.dropWhile p, p x = false
  | [], h => by obtain ⟨x, hx, _⟩ := h; cases hx
  | a :: l, h => by
    rw [List.dropWhile_cons]
    cases ha : p a with
    | true =>
      rw [if_pos rfl]
      refine dropWhile_some p l ?_
      obtain ⟨x, hx, hp⟩ := h
      rcases List.mem_cons.1 hx with rfl | hx
      · rw [ha] at hp; cases hp
      · exact ⟨x, hx, hp⟩
    | false => exact ⟨a, by simp, ha⟩
theorem trim_empty (l cs : List UInt8) : (Lib.trimS l cs != []) = !(l.all (cs.contains ·)) := by
  cases h : l.all (cs.contains ·) with
  | true =>
    have h2 : l.reverse.all (cs.contains ·) = true := by simpa using h
    unfold Lib.trimS Lib.trimRightS Lib.trimLeftS
    rw [dropWhile_all _ _ h2]
    rfl
  | false =>
    have h2 : ∃ x ∈ l.reverse, (fun x => cs.contains x) x = false := by
      have := List.all_eq_false.1 h
      obtain ⟨x, hx, hp⟩ := this
      exact ⟨x, by simpa using hx, by simpa using hp⟩
    obtain ⟨x, hx, hp⟩ := dropWhile_some _ _ h2
    obtain ⟨y, hy, _⟩ := dropWhile_some (fun x => cs.contains x) (Lib.trimRightS l cs) ⟨x, by simpa [Lib.trimRightS] using hx, hp⟩
    have hne : Lib.trimS l cs ≠ [] := by
      intro e
      unfold Lib.trimS Lib.trimLeftS at e
      rw [e] at hy
      cases hy
    simpa using hne
/-- Trim leaves nothing just where all bytes are of the set. -/
theorem Trim_some (s c : ByteArray) (hs : s.size ≤ 9223372036854775807) (hc : c.size < 4294967281) (ha : c.data.toList.all (fun b => decide (b.toNat < 128)) = true) :
    ∃ t, strings_Trim.f s c = some t ∧ (t.toList != ([] : List UInt8)) = !((bl s).all ((bl c).contains ·)) := by
  refine ⟨_, by unfold strings_Trim.f; rw [if_pos ⟨hs, hc, ha⟩], ?_⟩
  rw [ByteArray.toList_eq]
  show (Lib.trimS s.data.toList c.data.toList != []) = _
  rw [trim_empty]
  congr 1
  simp only [bl, List.all_map]
  congr 1
  funext x
  simp only [Function.comp]
  rw [Bool.eq_iff_iff]
  simp only [List.contains_iff_mem, List.mem_map]
  constructor
  · intro h; exact ⟨x, h, rfl⟩
  · rintro ⟨y, hy, e⟩
    have : y = x := UInt8.toNat_inj.1 (Int.ofNat.inj e)
    exact this ▸ hy

/-! Strings made of lists. -/
def tb (l : List Int) : ByteArray := ⟨(l.map fun x => UInt8.ofNat x.toNat).toArray⟩
theorem tb_bl (s : ByteArray) : tb (bl s) = s := by
  have : (bl s).map (fun x => UInt8.ofNat x.toNat) = s.data.toList := by
    unfold bl
    rw [List.map_map]
    conv => rhs; rw [← List.map_id s.data.toList]
    refine List.map_congr_left fun b _ => ?_
    simp
  unfold tb
  rw [this]
theorem bl_tb (l : List Int) (h : ∀ x ∈ l, 0 ≤ x ∧ x ≤ 255) : bl (tb l) = l := by
  unfold bl tb
  simp only [List.map_map]
  conv => rhs; rw [← List.map_id l]
  refine List.map_congr_left fun x hx => ?_
  have := h x hx
  simp only [Function.comp, UInt8.toNat_ofNat', id]
  omega
theorem tb_append (a b : List Int) : tb (a ++ b) = tb a ++ tb b := by
  have : (tb (a ++ b)).data = (tb a ++ tb b).data := by simp [tb, ByteArray.data_append]
  exact ByteArray.ext this
theorem tb_len (l : List Int) : (tb l).size = l.length := by simp [tb, ByteArray.size]
theorem app_nil (s : ByteArray) : s ++ tb [] = s := by
  have : (s ++ tb []).data = s.data := by simp [tb, ByteArray.data_append]
  exact ByteArray.ext this
theorem nil_app (s : ByteArray) : tb [] ++ s = s := by
  have : (tb [] ++ s).data = s.data := by simp [tb, ByteArray.data_append]
  exact ByteArray.ext this
theorem app_assoc (a b c : ByteArray) : a ++ b ++ c = a ++ (b ++ c) := by
  have : (a ++ b ++ c).data = (a ++ (b ++ c)).data := by simp [ByteArray.data_append]
  exact ByteArray.ext this
theorem bl_extract (s : ByteArray) (i j : Nat) : bl (s.extract i j) = ((bl s).drop i).take (j - i) := by
  unfold bl
  rw [ByteArray.data_extract, Array.toList_extract, List.extract_eq_take_drop, List.map_take, List.map_drop]
theorem extract_one (s : ByteArray) (j : Nat) (h : j < s.size) : s.extract j (j + 1) = tb [bt s (j : Int)] := by
  apply bl_inj
  have hb := bl_byte s (bt s (j : Int)) (by rw [bt_nat s j h]; exact List.getElem_mem _)
  rw [bl_extract, bl_tb _ (by simpa using hb), bl_drop s j h, show j + 1 - j = 1 by omega]
  rfl
theorem toList_eq_iff (a b : ByteArray) : a.toList = b.toList ↔ a = b := by
  rw [ByteArray.toList_eq, ByteArray.toList_eq]
  constructor
  · intro h
    exact ByteArray.ext (Array.toList_inj.1 h)
  · rintro rfl; rfl
theorem toList_nil_iff (a : ByteArray) : a.toList = ([] : List UInt8) ↔ a.size = 0 := by
  rw [ByteArray.toList_eq]
  show a.data.toList = [] ↔ a.data.size = 0
  rw [← Array.length_toList]
  exact List.length_eq_zero_iff.symm
def isBit (c : Int) : Bool := c == 48 || c == 49
theorem isBit_iff (c : Int) : isBit c = true ↔ c = 48 ∨ c = 49 := by simp [isBit]

/-! Bits: which strings are bits, stuffed and unstuffed. -/
def okBits (s : ByteArray) : Bool := (bl s).all isBit
theorem validBits_l0 (s : ByteArray) (hs : s.size ≤ 1000000000) : ∀ (d j k : Nat), s.size - j = d → j ≤ s.size → d < k → spec_validBits.l0 k s (j : Int) = some (((bl s).drop j).all isBit && decide (s.size ≤ 40)) := by
  intro d
  induction d with
  | zero =>
    intro j k hd hj hk
    obtain ⟨k, rfl⟩ : ∃ m, k = m + 1 := ⟨k - 1, by omega⟩
    simp only [spec_validBits.l0]
    rw [if_neg (by omega), List.drop_eq_nil_of_le (by rw [bl_len]; omega)]
    simp only [List.all_nil, Bool.true_and, Option.some.injEq, decide_eq_decide]
    omega
  | succ d ih =>
    intro j k hd hj hk
    obtain ⟨k, rfl⟩ : ∃ m, k = m + 1 := ⟨k - 1, by omega⟩
    simp only [spec_validBits.l0]
    rw [if_pos (by omega), if_pos (by omega), w64s (by omega), ih (j + 1) k (by omega) (by omega) (by omega), bl_drop s j (by omega), List.all_cons]
    generalize bt s (j : Int) = c
    by_cases h1 : c = 48
    · rw [if_pos h1]; simp [isBit, h1]
    · rw [if_neg h1]
      by_cases h2 : c = 49
      · rw [if_pos h2]; simp [isBit, h2]
      · rw [if_neg h2]; simp [isBit, h1, h2]
theorem validBits_some (s : ByteArray) (hs : s.size ≤ 1000000000) (k : Nat) (hk : s.size < k) : spec_validBits.f k s = some (okBits s && decide (s.size ≤ 40)) := by
  unfold spec_validBits.f okBits
  have := validBits_l0 s hs s.size 0 k (by omega) (by omega) hk
  simpa using this
theorem bitsAlone_some (s : ByteArray) (hs : s.size ≤ 1000000000) : impl_bitsAlone.f s = some (okBits s) := by
  unfold impl_bitsAlone.f
  obtain ⟨t, ht, he⟩ := Trim_some s (⟨#[48, 49]⟩ : ByteArray) (by omega) (by decide) (by decide)
  rw [ht, bsome]
  have hall : (bl s).all ((bl (⟨#[48, 49]⟩ : ByteArray)).contains ·) = okBits s := by
    unfold okBits
    congr 1
    funext x
    show List.contains [48, 49] x = isBit x
    simp [isBit, List.contains, List.elem]
    cases x == 48 <;> cases x == 49 <;> rfl
  rw [hall] at he
  have : (t.toList == ([] : List UInt8)) = okBits s := by
    cases h : okBits s <;> rw [h] at he <;> simpa using he
  rw [this]
theorem valid_some (s : ByteArray) (hs : s.size ≤ 1000000000) : impl_ValidBits.f s = some (okBits s && decide (s.size ≤ 40)) := by
  unfold impl_ValidBits.f
  by_cases h : (s.size : Int) ≤ 40
  · rw [if_pos h, bitsAlone_some s hs, bsome]
    simp [show s.size ≤ 40 by omega]
  · rw [if_neg h]
    simp [show ¬ s.size ≤ 40 by omega]
def stf : Int → List Int → List Int
  | _, [] => []
  | n, c :: r => if c = 49 then (if n + 1 = 5 then c :: 48 :: stf 0 r else c :: stf (n + 1) r) else c :: stf 0 r
def uim : Int → List Int → List Int
  | _, [] => []
  | n, c :: r => if n = 5 then uim 0 r else c :: uim (if c = 49 then n + 1 else 0) r
def usp : Int → List Int → Option (List Int)
  | n, [] => if n < 5 then some [] else none
  | n, c :: r => if n = 5 then (if c = 49 then none else usp 0 r) else (usp (if c = 49 then n + 1 else 0) r).map (c :: ·)
theorem stf_len : ∀ (l : List Int) (n : Int), 0 ≤ n → n ≤ 4 → ((stf n l).length : Int) ≤ l.length + (l.length + n) / 5
  | [], n, h0, h1 => by simp [stf]; omega
  | c :: r, n, h0, h1 => by
    unfold stf
    have a := stf_len r 0 (by omega) (by omega)
    split
    · split
      · simp only [List.length_cons]; omega
      · have b := stf_len r (n + 1) (by omega) (by omega)
        simp only [List.length_cons]; omega
    · simp only [List.length_cons]; omega
theorem stf_bits : ∀ (l : List Int) (n : Int), l.all isBit = true → (stf n l).all isBit = true
  | [], n, h => rfl
  | c :: r, n, h => by
    simp only [List.all_cons, Bool.and_eq_true] at h
    unfold stf
    split
    · split <;> simp only [List.all_cons, h.1, stf_bits r _ h.2, Bool.and_true, Bool.true_and]
      rfl
    · simp only [List.all_cons, h.1, stf_bits r _ h.2, Bool.and_true]
theorem stf_byte : ∀ (l : List Int) (n : Int), (∀ x ∈ l, 0 ≤ x ∧ x ≤ 255) → ∀ x ∈ stf n l, 0 ≤ x ∧ x ≤ 255
  | [], n, h => by intro x hx; cases hx
  | c :: r, n, h => by
    have a := fun m => stf_byte r m (fun x hx => h x (List.mem_cons_of_mem _ hx))
    have b := h c (List.mem_cons_self ..)
    intro x hx
    unfold stf at hx
    split at hx
    · split at hx
      · rcases List.mem_cons.1 hx with rfl | hx
        · exact b
        · rcases List.mem_cons.1 hx with rfl | hx
          · omega
          · exact a _ x hx
      · rcases List.mem_cons.1 hx with rfl | hx
        · exact b
        · exact a _ x hx
    · rcases List.mem_cons.1 hx with rfl | hx
      · exact b
      · exact a _ x hx
theorem uim_len : ∀ (l : List Int) (n : Int), (uim n l).length ≤ l.length
  | [], n => by simp [uim]
  | c :: r, n => by
    unfold uim
    split
    · have := uim_len r 0; simp only [List.length_cons]; omega
    · have := uim_len r (if c = 49 then n + 1 else 0); simp only [List.length_cons]; omega
theorem uim_bits : ∀ (l : List Int) (n : Int), l.all isBit = true → (uim n l).all isBit = true
  | [], n, h => rfl
  | c :: r, n, h => by
    simp only [List.all_cons, Bool.and_eq_true] at h
    unfold uim
    split
    · exact uim_bits r _ h.2
    · simp only [List.all_cons, h.1, uim_bits r _ h.2, Bool.and_true]
/-- Stuffed, then unstuffed. -/
theorem uim_stf : ∀ (l : List Int) (n : Int), l.all isBit = true → 0 ≤ n → n ≤ 4 → uim n (stf n l) = l
  | [], n, h, h0, h1 => by simp [stf, uim]
  | c :: r, n, h, h0, h1 => by
    simp only [List.all_cons, Bool.and_eq_true] at h
    unfold stf
    by_cases hc : c = 49
    · rw [if_pos hc]
      by_cases h5 : n + 1 = 5
      · rw [if_pos h5, uim, if_neg (by omega), if_pos hc, h5, uim, if_pos rfl, uim_stf r 0 h.2 (by omega) (by omega)]
      · rw [if_neg h5, uim, if_neg (by omega), if_pos hc, uim_stf r (n + 1) h.2 (by omega) (by omega)]
    · rw [if_neg hc, uim, if_neg (by omega), if_neg hc, uim_stf r 0 h.2 (by omega) (by omega)]
/-- Both ways to unstuff agree. -/
theorem usp_eq : ∀ (N : Nat) (l : List Int) (n : Int), l.length ≤ N → l.all isBit = true → 0 ≤ n → n ≤ 4 → usp n l = if stf n (uim n l) = l then some (uim n l) else none := by
  intro N
  induction N with
  | zero =>
    intro l n hN _ h0 h1
    have : l = [] := List.eq_nil_of_length_eq_zero (by omega)
    subst this
    simp [usp, uim, stf]; omega
  | succ N ih =>
    intro l n hN hb h0 h1
    match l, hN, hb with
    | [], _, _ => simp [usp, uim, stf]; omega
    | c :: r, hN, hb =>
      simp only [List.all_cons, Bool.and_eq_true] at hb
      simp only [List.length_cons] at hN
      have n5 : ¬ n = 5 := by omega
      rw [usp, uim, if_neg n5, if_neg n5, stf]
      by_cases hc : c = 49
      · rw [if_pos hc, if_pos hc]
        by_cases h5 : n + 1 = 5
        · rw [if_pos h5, h5]
          match r, hN, hb with
          | [], _, _ => simp [usp, uim, stf]
          | d :: q, hN, hb =>
            simp only [List.all_cons, Bool.and_eq_true] at hb
            simp only [List.length_cons] at hN
            have := ih q 0 (by omega) hb.2.2 (by omega) (by omega)
            rw [usp, if_pos rfl, uim, if_pos rfl]
            rcases (isBit_iff d).1 hb.2.1 with rfl | rfl
            · rw [if_neg (by omega), this]
              by_cases e : stf 0 (uim 0 q) = q
              · rw [if_pos e, if_pos (by rw [e])]; rfl
              · rw [if_neg e, if_neg (by intro h; simp at h; exact e h)]; rfl
            · rw [if_pos rfl, if_neg (by intro h; simp at h)]; rfl
        · rw [if_neg h5, ih r (n + 1) (by omega) hb.2 (by omega) (by omega)]
          by_cases e : stf (n + 1) (uim (n + 1) r) = r
          · rw [if_pos e, if_pos (by rw [e])]; rfl
          · rw [if_neg e, if_neg (by intro h; simp at h; exact e h)]; rfl
      · rw [if_neg hc, if_neg hc, ih r 0 (by omega) hb.2 (by omega) (by omega)]
        by_cases e : stf 0 (uim 0 r) = r
        · rw [if_pos e, if_pos (by rw [e])]; rfl
        · rw [if_neg e, if_neg (by intro h; simp at h; exact e h)]; rfl

/-! What the programs over bits compute. -/
theorem tb_cons (c : Int) (r : List Int) : tb (c :: r) = tb [c] ++ tb r := tb_append [c] r
theorem e48 : (⟨#[48]⟩ : ByteArray) = tb [48] := rfl
theorem size_tb1 (c : Int) : (tb [c]).size = 1 := tb_len _
theorem size_app1 (s : ByteArray) (c : Int) : (s ++ tb [c]).size = s.size + 1 := by rw [ByteArray.size_append, size_tb1]
theorem glue1 (a : ByteArray) (c : Int) (r : List Int) : a ++ tb [c] ++ tb r = a ++ tb (c :: r) := by rw [tb_cons c r, app_assoc]
theorem stuff_l0 (s : ByteArray) (hs : s.size ≤ 1000000) : ∀ (d j k : Nat) (acc : ByteArray) (n : Int), s.size - j = d → j ≤ s.size → acc.size ≤ 2 * j → 0 ≤ n → n ≤ 4 → d < k →
    spec_stuff.l0 k s acc n (j : Int) = some (acc ++ tb (stf n ((bl s).drop j))) := by
  intro d
  induction d with
  | zero =>
    intro j k acc n hd hj ha h0 h1 hk
    obtain ⟨k, rfl⟩ : ∃ m, k = m + 1 := ⟨k - 1, by omega⟩
    simp only [spec_stuff.l0]
    rw [if_neg (by omega), List.drop_eq_nil_of_le (by rw [bl_len]; omega), stf, app_nil]
  | succ d ih =>
    intro j k acc n hd hj ha h0 h1 hk
    obtain ⟨k, rfl⟩ : ∃ m, k = m + 1 := ⟨k - 1, by omega⟩
    simp only [spec_stuff.l0]
    rw [if_pos (by omega), if_pos (by omega), w64s (by omega), if_pos (by omega), if_pos (by omega), Int.toNat_natCast, Int.toNat_natCast, extract_one s j (by omega), size_tb1, if_pos (by omega), size_app1,
      w64 (n := n + 1) (by omega) (by omega), e48, bl_drop s j (by omega), stf]
    generalize bt s (j : Int) = c
    by_cases hc : c = 49
    · rw [if_pos hc, if_pos hc]
      by_cases h5 : n + 1 = 5
      · rw [if_pos h5, if_pos h5, if_pos (by omega), ih (j + 1) k _ 0 (by omega) (by omega) (by rw [size_app1, size_app1]; omega) (by omega) (by omega) (by omega), glue1, glue1]
      · rw [if_neg h5, if_neg h5, ih (j + 1) k _ (n + 1) (by omega) (by omega) (by rw [size_app1]; omega) (by omega) (by omega) (by omega), glue1]
    · rw [if_neg hc, if_neg hc, if_neg (by decide), ih (j + 1) k _ 0 (by omega) (by omega) (by rw [size_app1]; omega) (by omega) (by omega) (by omega), glue1]
theorem nil_tb : (⟨#[]⟩ : ByteArray) = tb [] := rfl
theorem stuff_some (s : ByteArray) (hs : s.size ≤ 1000000) (k : Nat) (hk : s.size < k) : spec_stuff.f k s = some (tb (stf 0 (bl s))) := by
  unfold spec_stuff.f
  have := stuff_l0 s hs s.size 0 k (⟨#[]⟩ : ByteArray) 0 (by omega) (by omega) (by simp [ByteArray.size]) (by omega) (by omega) hk
  rw [show ((0 : Nat) : Int) = 0 by rfl, List.drop_zero, nil_tb, nil_app] at this
  exact this
theorem bits_at (s : ByteArray) (hb : okBits s = true) (j : Nat) (hj : j < s.size) : bt s (j : Int) = 48 ∨ bt s (j : Int) = 49 := by
  rw [← isBit_iff, bt_nat s j hj]
  exact List.all_eq_true.1 hb _ (List.getElem_mem _)
theorem stuffed_l0 (s : ByteArray) (hs : s.size ≤ 1000000) (hb : okBits s = true) : ∀ (d j k : Nat) (acc : ByteArray) (n : Int), s.size - j = d → j ≤ s.size → acc.size ≤ 2 * j → 0 ≤ n → n ≤ 4 → d < k →
    impl_stuffed.l0 k s acc n (s.size : Int) (j : Int) = some (acc ++ tb (stf n ((bl s).drop j))) := by
  intro d
  induction d with
  | zero =>
    intro j k acc n hd hj ha h0 h1 hk
    obtain ⟨k, rfl⟩ : ∃ m, k = m + 1 := ⟨k - 1, by omega⟩
    simp only [impl_stuffed.l0]
    rw [if_neg (by omega), List.drop_eq_nil_of_le (by rw [bl_len]; omega), stf, app_nil]
  | succ d ih =>
    intro j k acc n hd hj ha h0 h1 hk
    obtain ⟨k, rfl⟩ : ∃ m, k = m + 1 := ⟨k - 1, by omega⟩
    simp only [impl_stuffed.l0]
    rw [if_pos (by omega), if_pos (by omega), w64s (by omega), if_pos (by omega), if_pos (by omega), Int.toNat_natCast, Int.toNat_natCast, extract_one s j (by omega), size_tb1, if_pos (by omega), if_pos (by omega), size_app1,
      w64 (n := n + 1) (by omega) (by omega), e48, bl_drop s j (by omega), stf]
    have hc := bits_at s hb j (by omega)
    generalize bt s (j : Int) = c at hc ⊢
    by_cases h49 : c = 49
    · subst h49
      rw [show wrap64 ((n + 1) * ((49 - 48) % 256)) = n + 1 by rw [show ((49 : Int) - 48) % 256 = 1 by rfl, Int.mul_one]; exact w64 (by omega) (by omega), if_pos rfl]
      by_cases h5 : n + 1 = 5
      · rw [if_pos h5, if_pos h5, if_pos (by omega), ih (j + 1) k _ 0 (by omega) (by omega) (by rw [size_app1, size_app1]; omega) (by omega) (by omega) (by omega), glue1, glue1]
      · rw [if_neg h5, if_neg h5, ih (j + 1) k _ (n + 1) (by omega) (by omega) (by rw [size_app1]; omega) (by omega) (by omega) (by omega), glue1]
    · have h48 : c = 48 := by omega
      subst h48
      rw [show wrap64 ((n + 1) * ((48 - 48) % 256)) = 0 by rw [show ((48 : Int) - 48) % 256 = 0 by rfl, Int.mul_zero]; exact w64 (by omega) (by omega), if_neg h49, if_neg (by omega),
        ih (j + 1) k _ 0 (by omega) (by omega) (by rw [size_app1]; omega) (by omega) (by omega) (by omega), glue1]
theorem stuffed_some (s : ByteArray) (hs : s.size ≤ 1000000) (hb : okBits s = true) (k : Nat) (hk : s.size < k) : impl_stuffed.f k s = some (tb (stf 0 (bl s))) := by
  unfold impl_stuffed.f
  have := stuffed_l0 s hs hb s.size 0 k (⟨#[]⟩ : ByteArray) 0 (by omega) (by omega) (by simp [ByteArray.size]) (by omega) (by omega) hk
  rw [show ((0 : Nat) : Int) = 0 by rfl, List.drop_zero, nil_tb, nil_app] at this
  exact this
def sout (s : ByteArray) : ByteArray := if okBits s = true ∧ s.size ≤ 40 then tb (stf 0 (bl s)) else tb []
theorem specS_some (s : ByteArray) (hs : s.size ≤ 1000000) (k : Nat) (hk : s.size < k) : spec_StuffBits.f k s = some (sout s) := by
  unfold spec_StuffBits.f sout
  rw [validBits_some s (by omega) k hk, bsome]
  by_cases h : okBits s = true ∧ s.size ≤ 40
  · rw [if_pos h, if_pos (by simp [h.1, h.2]), stuff_some s hs k hk, bsome]
  · rw [if_neg h, if_neg (by simpa using h)]; rfl
theorem implS_some (s : ByteArray) (hs : s.size ≤ 1000000) (k : Nat) (hk : s.size < k) : impl_StuffBits.f k s = some (sout s) := by
  unfold impl_StuffBits.f sout
  rw [valid_some s (by omega), bsome]
  by_cases h : okBits s = true ∧ s.size ≤ 40
  · rw [if_pos h, if_pos (by simp [h.1, h.2]), stuffed_some s hs h.1 k hk, bsome]
  · rw [if_neg h, if_neg (by simpa using h)]; rfl

end Go.Proofs.YtbgchgjefohpoaaDoor.Pure
