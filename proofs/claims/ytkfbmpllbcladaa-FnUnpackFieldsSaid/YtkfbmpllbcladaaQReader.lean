/- A text of lemmas over the printed functions. -/
import Derived.Test.YtkfbmpllbcladaaPx1
import Derived.Test.YtkfbmpllbcladaaPx2
import Derived.Test.YtkfbmpllbcladaaPx3
namespace Go.Proofs.Ytkfbmpllbcladaa.Pure
open Go.RowKit Go.Proofs.Ytkfbmpllbcladaa.P Go.Proofs.YtkfbmpllbcladaaW.PrintWords Go.Proofs.YtkfbmpllbcladaaW.PrintLast
set_option linter.unusedVariables false
set_option linter.unusedSimpArgs false

/-! The reader of the drawn arguments: what is picked lies in its range, whatever the code. -/

theorem w64 {n : Int} (h0 : -9223372036854775808 ≤ n) (h1 : n ≤ 9223372036854775807) : wrap64 n = n := by unfold wrap64; omega

theorem xor_nonneg {a b : Int} (ha : 0 ≤ a) (ha' : a < 9223372036854775808) (hb : 0 ≤ b) (hb' : b < 9223372036854775808) : 0 ≤ Go.bits .xor .i64 a b := by
  obtain ⟨x, rfl⟩ := Int.eq_ofNat_of_zero_le ha
  obtain ⟨y, rfl⟩ := Int.eq_ofNat_of_zero_le hb
  have h1 : x ^^^ y < 2 ^ 63 := Nat.xor_lt_two_pow (by omega) (by omega)
  have hx : x % 2 ^ IntKind.i64.bits = x := Nat.mod_eq_of_lt (by simp [IntKind.bits]; omega)
  have hy : y % 2 ^ IntKind.i64.bits = y := Nat.mod_eq_of_lt (by simp [IntKind.bits]; omega)
  simp only [Go.bits, BitVec.ofInt_natCast, BitVec.toNat_xor, BitVec.toNat_ofNat, hx, hy]
  generalize x ^^^ y = z at *
  have e : (↑z : Int) % 2 ^ 64 = z := Int.emod_eq_of_lt (by omega) (by omega)
  simp only [IntKind.wrap, IntKind.bits, IntKind.signed, e]
  rw [if_neg (by simp; omega)]
  omega

/-- A reader's state: bytes, few, and a place. -/
structure RS (b : List Int) (p n : Int) : Prop where
  (len : b.length ≤ 2000) (byte : ∀ x ∈ b, 0 ≤ x ∧ x ≤ 255) (p0 : 0 ≤ p) (pn : p ≤ n)

theorem RS.le {b : List Int} {p n m : Int} (h : RS b p n) (hm : n ≤ m) : RS b p m := ⟨h.len, h.byte, h.p0, Int.le_trans h.pn hm⟩

theorem rd_mem {b : List Int} {i : Int} (h0 : 0 ≤ i) (h1 : i < b.length) : rd b i ∈ b := by
  unfold rd
  rw [List.getD_eq_getElem?_getD, List.getElem?_eq_getElem (by omega)]
  exact List.getElem_mem _

theorem rd_byte {b : List Int} (h : ∀ x ∈ b, 0 ≤ x ∧ x ≤ 255) (i : Int) : 0 ≤ rd b i ∧ rd b i ≤ 255 := by
  by_cases hi : i.toNat < b.length
  · unfold rd
    rw [List.getD_eq_getElem?_getD, List.getElem?_eq_getElem hi]
    exact h _ (List.getElem_mem _)
  · unfold rd
    rw [List.getD_eq_getElem?_getD, List.getElem?_eq_none (by omega)]
    simp

theorem newReader_some (l : List Int) (h : ∀ x ∈ l, (Lit.int .u8 x).wf = true) : ∃ b, spec_newReader.f l = some (b, 0) ∧ RS b 0 0 := by
  have hb : ∀ x ∈ l, 0 ≤ x ∧ x ≤ 255 := by
    intro x hx
    have := h x hx
    simp [Lit.wf, IntKind.min, IntKind.max, IntKind.signed, IntKind.bits] at this
    omega
  unfold spec_newReader.f
  split
  · rw [if_pos (by omega)]
    exact ⟨_, rfl, by simp; omega, fun x hx => hb x (List.mem_of_mem_take hx), by omega, by omega⟩
  · exact ⟨_, rfl, by omega, hb, by omega, by omega⟩

/-- A number picked: in its range. -/
theorem pick_some {b : List Int} {p n : Int} (h : RS b p n) (hn : n ≤ 1000000000) (m : Int) (hm : m ≤ 1000000000000) : ∃ r, (∀ k, 1 ≤ k → spec_reader_pick.f k b p m = some (r, p + 1)) ∧ 0 ≤ r ∧ (1 ≤ m → r < m) ∧ RS b (p + 1) (n + 1) := by
  have p0 := h.p0; have pn := h.pn; have hl := h.len
  have hR : RS b (p + 1) (n + 1) := ⟨hl, h.byte, by omega, by omega⟩
  have e1 : wrap64 (p + 1) = p + 1 := w64 (by omega) (by omega)
  have e2 : wrap64 (p + 1 - 1) = p := by rw [w64 (by omega) (by omega)]; omega
  by_cases hz : m < 1
  · refine ⟨0, fun k hk => ?_, by omega, by omega, hR⟩
    obtain ⟨k, rfl⟩ : ∃ j, k = j + 1 := ⟨k - 1, by omega⟩
    unfold spec_reader_pick.f
    rw [if_pos hz, e1]
    simp only [spec_reader_pick.j0, if_true]
  · by_cases hb : (b.length : Int) = 0
    · refine ⟨0, fun k hk => ?_, by omega, by omega, hR⟩
      obtain ⟨k, rfl⟩ : ∃ j, k = j + 1 := ⟨k - 1, by omega⟩
      unfold spec_reader_pick.f
      rw [if_neg hz, e1]
      have : ((b.length : Int) == 0) = true := by simpa using hb
      rw [this]
      simp only [spec_reader_pick.j0, if_true]
    · have hb' : ((b.length : Int) == 0) = false := by simpa using hb
      by_cases hlt : p < (b.length : Int)
      · obtain ⟨x0, x1⟩ := rd_byte h.byte p
        refine ⟨Int.tmod (rd b p) m, fun k hk => ?_, ?_, ?_, hR⟩
        · obtain ⟨k, rfl⟩ : ∃ j, k = j + 1 := ⟨k - 1, by omega⟩
          unfold spec_reader_pick.f
          rw [if_neg hz, e1, hb']
          simp only [spec_reader_pick.j0, Bool.false_eq_true, if_false, e2]
          rw [if_pos hlt, if_pos p0, if_neg (by omega), w64 (n := rd b p) (by omega) (by omega)]
        · exact Int.tmod_nonneg _ x0
        · intro _; exact Int.tmod_lt_of_pos _ (by omega)
      · have q0 : 0 ≤ Int.tmod p (b.length : Int) := Int.tmod_nonneg _ p0
        have q1 : Int.tmod p (b.length : Int) < b.length := Int.tmod_lt_of_pos _ (by omega)
        have e3 : wrap64 (p * 7) = p * 7 := w64 (by omega) (by omega)
        have e4 : wrap64 (p * 7 + 3) = p * 7 + 3 := w64 (by omega) (by omega)
        have s0 : 0 ≤ Int.tmod (p * 7 + 3) (b.length : Int) := Int.tmod_nonneg _ (by omega)
        have s1 : Int.tmod (p * 7 + 3) (b.length : Int) < b.length := Int.tmod_lt_of_pos _ (by omega)
        obtain ⟨x0, x1⟩ := rd_byte h.byte (Int.tmod p (b.length : Int))
        obtain ⟨y0, y1⟩ := rd_byte h.byte (Int.tmod (p * 7 + 3) (b.length : Int))
        have d0 : 0 ≤ Int.tdiv p (b.length : Int) := Int.tdiv_nonneg p0 (by omega)
        have d1 : Int.tdiv p (b.length : Int) ≤ p := by
          rw [Int.tdiv_eq_ediv_of_nonneg p0]
          exact Int.ediv_le_self _ p0
        generalize hxe : rd b (Int.tmod p (b.length : Int)) = x at *
        generalize hye : rd b (Int.tmod (p * 7 + 3) (b.length : Int)) = y at *
        generalize hde : Int.tdiv p (b.length : Int) = d at *
        have t0 : 0 ≤ Int.tdiv (x * 131 + y * 1117 + p * 29 + d * 53) 64 := Int.tdiv_nonneg (by omega) (by omega)
        have t1 : Int.tdiv (x * 131 + y * 1117 + p * 29 + d * 53) 64 ≤ x * 131 + y * 1117 + p * 29 + d * 53 := by
          rw [Int.tdiv_eq_ediv_of_nonneg (by omega)]
          exact Int.ediv_le_self _ (by omega)
        have hx := xor_nonneg (a := x * 131 + y * 1117 + p * 29 + d * 53) (b := Int.tdiv (x * 131 + y * 1117 + p * 29 + d * 53) 64) (by omega) (by omega) t0 (by omega)
        refine ⟨Int.tmod (Go.bits .xor .i64 (x * 131 + y * 1117 + p * 29 + d * 53) (Int.tdiv (x * 131 + y * 1117 + p * 29 + d * 53) 64)) m, fun k hk => ?_, Int.tmod_nonneg _ hx, fun _ => Int.tmod_lt_of_pos _ (by omega), hR⟩
        obtain ⟨k, rfl⟩ : ∃ j, k = j + 1 := ⟨k - 1, by omega⟩
        unfold spec_reader_pick.f
        rw [if_neg hz, e1, hb']
        simp only [spec_reader_pick.j0, Bool.false_eq_true, if_false, e2]
        rw [if_neg hlt, if_neg hb, if_pos q0, if_pos q1, e3, e4, if_pos s0, if_pos s1, if_neg (by omega)]
        rw [hxe, hye, hde, w64 (n := x) (by omega) (by omega), w64 (n := y) (by omega) (by omega), w64 (n := x * 131) (by omega) (by omega), w64 (n := y * 1117) (by omega) (by omega),
          w64 (n := x * 131 + y * 1117) (by omega) (by omega), w64 (n := p * 29) (by omega) (by omega), w64 (n := x * 131 + y * 1117 + p * 29) (by omega) (by omega),
          w64 (n := d) (by omega) (by omega), w64 (n := d * 53) (by omega) (by omega), w64 (n := x * 131 + y * 1117 + p * 29 + d * 53) (by omega) (by omega),
          w64 (n := Int.tdiv (x * 131 + y * 1117 + p * 29 + d * 53) 64) (by omega) (by omega)]

/-- One of some numbers, picked. -/
theorem one_some {b : List Int} {p n : Int} (h : RS b p n) (hn : n ≤ 1000000000) (l : List Int) (hl : 1 ≤ l.length) (hm : l.length ≤ 1000000) : ∃ r, (∀ k, 1 ≤ k → spec_reader_one.f k b p l = some (r, p + 1)) ∧ r ∈ l ∧ RS b (p + 1) (n + 1) := by
  obtain ⟨r, hr, r0, r1, hR⟩ := pick_some h hn (l.length : Int) (by omega)
  refine ⟨rd l r, fun k hk => ?_, rd_mem r0 (r1 (by omega)), hR⟩
  unfold spec_reader_one.f
  rw [hr k hk]
  simp only [Option.bind_some]
  rw [if_pos r0, if_pos (r1 (by omega))]

end Go.Proofs.Ytkfbmpllbcladaa.Pure
