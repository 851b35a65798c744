/- Written by a program: each theorem '.calls' says that the call of a function of the given program comes to what the Lean function beside it says; no condition but what stands in it. -/
import Derived.Test.YtkhoekcjomnaeaaDoorPx0
namespace Go.Proofs.YtkhoekcjomnaeaaDoor.P
open Go.RowKit Go.Proofs.YtkhoekcjomnaeaaDoorW.PrintWords Go.Proofs.YtkhoekcjomnaeaaDoorW.PrintLast Go.Proofs.YtkhoekcjomnaeaaDoorW.PrintMore
attribute [local go_sem] max2_int min2_int max_two min_two max_three min_three max_four min_four   -- for this text's walks alone
set_option linter.unusedVariables false
set_option linter.unusedSimpArgs false

/-! ### mine: strings_Trim: function 22 -/
def strings_Trim.f (a0 : ByteArray) (a1 : ByteArray) : Option (ByteArray) := if a0.size ≤ 9223372036854775807 ∧ a1.size < 4294967281 ∧ a1.data.toList.all (fun b => decide (b.toNat < 128)) = true then some ⟨(Lib.trimS a0.data.toList a1.data.toList).toArray⟩ else none
theorem strings_Trim.calls (a0 : ByteArray) (a1 : ByteArray) (r : ByteArray) (w : World) (h : strings_Trim.f a0 a1 = some r) :
    Calls Tryd.prog 22 #[.string a0, .string a1] w fun e w' => e = .returned (.string r) ∧ Below w.heap.size w w' := by
  unfold strings_Trim.f at h
  split at h
  · rename_i hc
    cases h
    exact Any.strings_Trim_laid Tryd.lays160 (by kernel_rfl) a0 a1 w hc.1 hc.2.1 (ascii_of_all hc.2.2)
  · cases h

/-! ### impl_bitsAlone: function 16 -/
def impl_bitsAlone.f (a0 : ByteArray) : Option (Bool) := (strings_Trim.f a0 (⟨#[48, 49]⟩ : ByteArray)).bind fun t101 => (some (t101.toList == ([] : List UInt8)))
set_option maxHeartbeats 8000000 in
set_option maxRecDepth 100000 in
theorem impl_bitsAlone.calls (a0 : ByteArray) (r : Bool) (w : World) (h : impl_bitsAlone.f a0 = some r) :
    Calls Tryd.prog 16 #[.string a0] w fun e w' => e = .returned (.bool r) ∧ Below w.heap.size w w' := by
  have HB := Aside0.mk (Below.refl w.heap.size w)
  have H : ((strings_Trim.f a0 (⟨#[48, 49]⟩ : ByteArray)).bind fun t101 => (some (t101.toList == ([] : List UInt8)))) = some r := h
  clear h
  replace H := Option.bind_eq_some_iff.mp H
  obtain ⟨t101, A20, H⟩ := H
  replace H : (some (t101.toList == ([] : List UInt8))) = some r := H
  have A2 := Aside0.mk A20
  clear A20
  obtain rfl := Option.some.inj H
  go_enter Tryd.func16, Tryd.ntmps16
  go_wp2_with (first | ((with_reducible refine gate_callee (f := 22) rfl ?_); refine goesL_ (some 4) rfl rfl Tryd.func22 (by kernel_rfl) rfl #[.string a0, .string (⟨#[48, 49]⟩ : ByteArray)] rfl (by (try simp only [List.map_toArray, List.map_cons, List.map_nil]); first | done | rfl | (simp only [List.length_drop, List.length_take]; rfl)) ?_; (with_reducible refine (strings_Trim.calls a0 (⟨#[48, 49]⟩ : ByteArray) t101 _ A2.out).mono ?_); rintro e w3 ⟨rfl, hb⟩; refine ⟨_, rfl, ?_⟩; have n0_ := Aside0.mk (below_step (by repeat (first | (with_reducible first | exact HB.out | apply below_alloc | apply pw_below_drewN | apply below_drew1) | exact HB.out)) hb); clear HB; have HB := n0_; clear n0_; (try clear hb); (try clear hb2); (try clear hk); (try clear hi)))
  go_ret
  exact ⟨by first | rfl | (simp [errW_none, errW_some] <;> rfl) | (simp [*, errW_none, errW_some] <;> rfl), by repeat (first | (with_reducible first | exact HB.out | apply below_alloc | apply pw_below_drewN | apply below_drew1) | exact HB.out)⟩

/-! ### mine: bytes.tpl -/
/-- The numbers of a string's bytes. -/
def bnum (s : ByteArray) : List Int := s.data.toList.map fun b => (b.toNat : Int)
theorem bnum_len (s : ByteArray) : (bnum s).length = s.size := by unfold bnum; rw [List.length_map]; rfl
/-- A row of bytes in a block of its own, whatever mark it bears behind its cells. -/
structure BR (w : World) (g : Nat) (l : List Int) : Prop where
  c : ∀ j, j < l.length → w.cell? ⟨g, j, none⟩ = some (.int .u8 (l.getD j 0)) ∧ w.frozen? ⟨g, j, none⟩ = false
theorem BR.set {w : World} {g : Nat} {l : List Int} (h : BR w g l) (i : Nat) (hi : i < l.length) (x : Int) : BR (w.setCell ⟨g, i, none⟩ (.int .u8 x)) g (l.set i x) := by
  refine ⟨fun j hj => ?_⟩
  rw [List.length_set] at hj
  obtain ⟨h1, h2⟩ := h.c j hj
  refine ⟨?_, (World.frozen?_setCell _ _ _ _).trans h2⟩
  by_cases e : i = j
  · subst e
    rw [World.cell?_setCell_same _ _ _ h1]
    simp [List.getD, hi]
  · rw [World.cell?_setCell_other _ _ _ _ (fun x => e (by cases x; rfl)), h1]
    simp [List.getD, List.getElem?_set, e]
theorem BR.back {w : World} {g : Nat} {l : List Int} (h : BR w g l) (o : Nat) (n c : Nat) (hn : n = l.length) : (convert 25 9 (.slice (some ⟨g, o, none⟩) (n - o) c)).run Tryd.prog w = .ok (.string (strOfNums (l.drop o))) w := by
  subst hn
  refine run_convert_bytes_arg (P := Tryd.prog) w 25 5 Tryd.underlying25 Tryd.underlying5 g o (l.length - o) c (l.drop o) (List.length_drop) (fun i hi => ?_) 9 Tryd.underlying9
  rw [(h.c (o + i) (by omega)).1]
  simp [List.getD, List.getElem?_drop]
theorem BR.new (w : World) (s : ByteArray) (n : Nat) (t lo hi : Nat) (hlo : lo = (bytesRow s n).size) : BR (w.alloc (.cells (bytesRow s n) t (lo, hi))) w.heap.size (bnum s) := by
  refine ⟨fun j hj => ?_⟩
  rw [bnum_len] at hj
  have hs : s.data.size = s.size := rfl
  have hsz : (bytesRow s n).size = s.size + (n - s.size) := by
    unfold bytesRow
    rw [Array.size_append, Array.size_map, Array.size_replicate, hs]
  refine ⟨?_, ?_⟩
  · rw [World.cell?_alloc_mark]
    unfold bytesRow
    rw [Array.getElem?_append_left (by rw [Array.size_map, hs]; exact hj), Array.getElem?_map, Array.getElem?_eq_getElem (by rw [hs]; exact hj)]
    simp only [bnum, List.getD, List.getElem?_map, Option.map_some]
    rw [List.getElem?_eq_getElem (by rw [Array.length_toList, hs]; exact hj)]
    simp
  · rw [World.frozen?_alloc_mark]
    simp
    omega
theorem BR.drew {w : World} {g : Nat} {l : List Int} (h : BR w g l) : BR w.drew g l := ⟨fun j hj => h.c j hj⟩
/-- What a conversion of a string to bytes gives, and what one of bytes to a string. -/
theorem to_bytes (w : World) (s : ByteArray) : (convert 9 25 (.string s)).run Tryd.prog w = .ok (.slice (some ⟨w.heap.size, 0, none⟩) s.size (grownCap w s.size 0 5))
      (w.drew.alloc (.cells (bytesRow s (grownCap w s.size 0 5)) 5 ((bytesRow s (grownCap w s.size 0 5)).size, (bytesRow s (grownCap w s.size 0 5)).size + 1))) :=
  run_bytes_of_string w 9 25 5 s Tryd.underlying9 Tryd.underlying25 Tryd.underlying5

/-! ### mine: synd.tpl -/
/-- The place that the checks of some bits tell. -/
def synd (l : List Int) : Nat → Int
  | 0 => 0
  | i + 1 => if l.getD i 0 = 49 then Go.bits .xor .i64 (synd l i) ((i : Int) + 1) else synd l i

/-! ### mine: impl_guarded: function 20 -/
def putc (a : Int) (k : Int) (l : List Int) : List Int := if Go.bits .and .i64 a k = 0 then l else l.set (k - 1).toNat 49
theorem putc_len (a k : Int) (l : List Int) : (putc a k l).length = l.length := by unfold putc; split <;> simp
def putn (a : Int) (l : List Int) : Nat → List Int
  | 0 => l
  | 1 => putc a 1 l
  | 2 => putc a 2 (putc a 1 l)
  | _ => putc a 4 (putc a 2 (putc a 1 l))
theorem putn_len (a : Int) (l : List Int) : ∀ j, (putn a l j).length = l.length
  | 0 => rfl
  | 1 => putc_len _ _ _
  | 2 => by rw [putn, putc_len, putc_len]
  | _ + 3 => by rw [putn, putc_len, putc_len, putc_len]; all_goals simp
def seven (s : ByteArray) : ByteArray := (((⟨#[48, 48]⟩ : ByteArray) ++ s.extract 0 1) ++ (⟨#[48]⟩ : ByteArray)) ++ s.extract 1 s.size
def impl_guarded.f (a0 : ByteArray) : Option (ByteArray) := if a0.size = 4 then some (strOfNums (putc (synd (bnum (seven a0)) 7) 4 (putc (synd (bnum (seven a0)) 7) 2 (putc (synd (bnum (seven a0)) 7) 1 (bnum (seven a0)))))) else none
theorem seven_size (s : ByteArray) (h : s.size = 4) : (seven s).size = 7 := by
  unfold seven
  simp only [ByteArray.size_append, ByteArray.size_extract, h]
  rfl
set_option maxHeartbeats 4000000 in
theorem impl_guarded.calls (a0 : ByteArray) (r : ByteArray) (w : World) (h : impl_guarded.f a0 = some r) :
    Calls Tryd.prog 20 #[.string a0] w fun e w' => e = .returned (.string r) ∧ Below w.heap.size w w' := by
  unfold impl_guarded.f at h
  split at h
  · rename_i hc
    cases h
    have h7 := seven_size a0 hc
    have hconv : (convert 9 25 (.string (seven a0))).run Tryd.prog w.drew = .ok (.slice (some ⟨w.heap.size, 0, none⟩) (seven a0).size (grownCap w.drew (seven a0).size 0 5))
      (w.drew.drew.alloc (.cells (bytesRow (seven a0) (grownCap w.drew (seven a0).size 0 5)) 5 ((bytesRow (seven a0) (grownCap w.drew (seven a0).size 0 5)).size, (bytesRow (seven a0) (grownCap w.drew (seven a0).size 0 5)).size + 1))) := to_bytes w.drew (seven a0)
    have HB0 : Aside0 (BR (w.alloc (.cells (bytesRow (seven a0) (grownCap w.drew (seven a0).size 0 5)) 5 ((bytesRow (seven a0) (grownCap w.drew (seven a0).size 0 5)).size, (bytesRow (seven a0) (grownCap w.drew (seven a0).size 0 5)).size + 1))).drew.drew w.heap.size (bnum (seven a0))) := ⟨(BR.new w (seven a0) _ _ _ _ rfl).drew.drew⟩
    have HW0 : Aside0 (Below w.heap.size w (w.alloc (.cells (bytesRow (seven a0) (grownCap w.drew (seven a0).size 0 5)) 5 ((bytesRow (seven a0) (grownCap w.drew (seven a0).size 0 5)).size, (bytesRow (seven a0) (grownCap w.drew (seven a0).size 0 5)).size + 1))).drew.drew) := ⟨below_drew (below_drew ((Below.refl _ w).alloc (Nat.le_refl _) _))⟩
    have hlen : Aside0 ((bnum (seven a0)).length = 7) := ⟨by rw [bnum_len, h7]⟩
    rw [h7] at hconv HB0 HW0
    generalize grownCap w.drew 7 0 5 = cap at *
    generalize bytesRow (seven a0) cap = C at *
    generalize bnum (seven a0) = l0 at *
    unfold seven at hconv
    rw [hc] at hconv
    have s1 : (1 : Int) ≤ (a0.size : Int) := by omega
    clear h7
    generalize hR : strOfNums (putc (synd l0 7) 4 (putc (synd l0 7) 2 (putc (synd l0 7) 1 l0))) = R
    have HR := Aside0.mk hR
    clear hR
    go_enter Tryd.func20, Tryd.ntmps20
    go_wp2
    go_region
    go_wp2
    go_loopg [4, 5, 16] 7 (fun gg s4 _ s16 wr => ∃ i : Nat, i + gg = 7 ∧ s4 = .int .i64 (synd l0 i) ∧ s16 = .int .i64 i ∧ Aside0 (BR wr w.heap.size l0) ∧ Aside0 (Below w.heap.size w wr))
    case atStart => exact ⟨0, by omega, rfl, rfl, HB0, HW0⟩
    case round =>
      clear HB0 HW0 hconv s1
      obtain ⟨i, hi, rfl, rfl, HB, HW⟩ := hrel
      cases gk with
      | zero =>
        obtain rfl : i = 7 := by omega
        generalize synd l0 7 = a at *
        have hg : w.heap.size < wr.heap.size := World.block_lt_of_cell? _ _ (HB.out.c 0 (by rw [hlen.out]; decide)).1
        have HB2 : Aside0 (BR (wr.alloc (.cells #[.int .i64 1, .int .i64 2, .int .i64 4] 3)) w.heap.size l0) := ⟨⟨fun j hj => ⟨by rw [World.cell?_alloc_old _ _ _ (by show w.heap.size ≠ _; omega)]; exact (HB.out.c j hj).1, by rw [World.frozen?_alloc_old _ _ _ (by show w.heap.size ≠ _; omega)]; exact (HB.out.c j hj).2⟩⟩⟩
        have HC0 : Aside0 ((wr.alloc (.cells #[.int .i64 1, .int .i64 2, .int .i64 4] 3)).cell? ⟨wr.heap.size, 0, none⟩ = some (.int .i64 1) ∧ (wr.alloc (.cells #[.int .i64 1, .int .i64 2, .int .i64 4] 3)).cell? ⟨wr.heap.size, 1, none⟩ = some (.int .i64 2) ∧ (wr.alloc (.cells #[.int .i64 1, .int .i64 2, .int .i64 4] 3)).cell? ⟨wr.heap.size, 2, none⟩ = some (.int .i64 4)) := by
          refine ⟨?_, ?_, ?_⟩ <;> rw [World.cell?_alloc_mark] <;> rfl
        have HW2 : Aside0 (Below w.heap.size w (wr.alloc (.cells #[.int .i64 1, .int .i64 2, .int .i64 4] 3))) := ⟨below_alloc HW.out _⟩
        have HBl : Aside0 (BR (wr.alloc (.cells #[.int .i64 1, .int .i64 2, .int .i64 4] 3)) w.heap.size (putn a l0 0)) := HB2
        clear HB HW HB2
        go_wp2
        generalize wr.heap.size = B at *
        go_loopg [7, 31] 3 (fun gg _ s31 wr2 => ∃ j : Nat, j + gg = 3 ∧ s31 = .int .i64 j ∧ Aside0 (BR wr2 w.heap.size (putn a l0 j)) ∧ Aside0 (wr2.cell? ⟨B, 0, none⟩ = some (.int .i64 1) ∧ wr2.cell? ⟨B, 1, none⟩ = some (.int .i64 2) ∧ wr2.cell? ⟨B, 2, none⟩ = some (.int .i64 4)) ∧ Aside0 (Below w.heap.size w wr2))
        case atStart => exact ⟨0, by omega, rfl, HBl, HC0, HW2⟩
        case round =>
          clear HBl HC0 HW2
          obtain ⟨j, hj, rfl, HB, HC, HW⟩ := hrel
          have hlen2 : Aside0 ((putn a l0 j).length = 7) := ⟨by rw [putn_len]; exact hlen.out⟩
          obtain ⟨hc0, hc1, hc2⟩ := HC.out
          rcases (show j = 0 ∨ j = 1 ∨ j = 2 ∨ j = 3 by omega) with rfl | rfl | rfl | rfl
          case _ =>
            have hcell := hc0
            have hd : decide ((0 : Int) < 3) = true := rfl
            obtain ⟨hst, hfr⟩ := HB.out.c 0 (by rw [hlen2.out]; decide)
            have hlr : putn a l0 (0 + 1) = putc a 1 (putn a l0 0) := rfl
            clear hc0 hc1 hc2
            by_cases hy : Go.bits .and .i64 a 1 = 0
            · have hb : (Go.bits .and .i64 a 1 != 0) = false := bne_eq_false_iff_eq.mpr hy
              have hlp : putn a l0 (0 + 1) = putn a l0 0 := by rw [hlr, putc, if_pos hy]
              clear hst hfr
              go_wp2
              go_roundg 2
              case measure => omega
              case rel => exact ⟨0 + 1, by omega, rfl, ⟨by rw [hlp]; exact HB.out⟩, HC, HW⟩
            · have hb : (Go.bits .and .i64 a 1 != 0) = true := bne_iff_ne.mpr hy
              have hlp : putn a l0 (0 + 1) = (putn a l0 0).set 0 49 := by rw [hlr, putc, if_neg hy]; rfl
              have HB3 : Aside0 (BR (wr.setCell ⟨w.heap.size, 0, none⟩ (.int .u8 49)) w.heap.size (putn a l0 (0 + 1))) := ⟨by rw [hlp]; exact HB.out.set 0 (by rw [hlen2.out]; decide) 49⟩
              have HC3 : Aside0 ((wr.setCell ⟨w.heap.size, 0, none⟩ (.int .u8 49)).cell? ⟨B, 0, none⟩ = some (.int .i64 1) ∧ (wr.setCell ⟨w.heap.size, 0, none⟩ (.int .u8 49)).cell? ⟨B, 1, none⟩ = some (.int .i64 2) ∧ (wr.setCell ⟨w.heap.size, 0, none⟩ (.int .u8 49)).cell? ⟨B, 2, none⟩ = some (.int .i64 4)) :=
                ⟨by rw [World.cell?_setCell_other _ _ _ _ (by intro e; injection e with e _ _; omega)]; exact HC.out.1, by rw [World.cell?_setCell_other _ _ _ _ (by intro e; injection e with e _ _; omega)]; exact HC.out.2.1, by rw [World.cell?_setCell_other _ _ _ _ (by intro e; injection e with e _ _; omega)]; exact HC.out.2.2⟩
              have HW3 : Aside0 (Below w.heap.size w (wr.setCell ⟨w.heap.size, 0, none⟩ (.int .u8 49))) := ⟨below_set HW.out (Nat.le_refl _)⟩
              clear HB HC HW
              go_wp2
              go_roundg 2
              case measure => omega
              case rel => exact ⟨0 + 1, by omega, rfl, HB3, HC3, HW3⟩
          case _ =>
            have hcell := hc1
            have hd : decide ((1 : Int) < 3) = true := rfl
            obtain ⟨hst, hfr⟩ := HB.out.c 1 (by rw [hlen2.out]; decide)
            have hlr : putn a l0 (1 + 1) = putc a 2 (putn a l0 1) := rfl
            clear hc0 hc1 hc2
            by_cases hy : Go.bits .and .i64 a 2 = 0
            · have hb : (Go.bits .and .i64 a 2 != 0) = false := bne_eq_false_iff_eq.mpr hy
              have hlp : putn a l0 (1 + 1) = putn a l0 1 := by rw [hlr, putc, if_pos hy]
              clear hst hfr
              go_wp2
              go_roundg 1
              case measure => omega
              case rel => exact ⟨1 + 1, by omega, rfl, ⟨by rw [hlp]; exact HB.out⟩, HC, HW⟩
            · have hb : (Go.bits .and .i64 a 2 != 0) = true := bne_iff_ne.mpr hy
              have hlp : putn a l0 (1 + 1) = (putn a l0 1).set 1 49 := by rw [hlr, putc, if_neg hy]; rfl
              have HB3 : Aside0 (BR (wr.setCell ⟨w.heap.size, 1, none⟩ (.int .u8 49)) w.heap.size (putn a l0 (1 + 1))) := ⟨by rw [hlp]; exact HB.out.set 1 (by rw [hlen2.out]; decide) 49⟩
              have HC3 : Aside0 ((wr.setCell ⟨w.heap.size, 1, none⟩ (.int .u8 49)).cell? ⟨B, 0, none⟩ = some (.int .i64 1) ∧ (wr.setCell ⟨w.heap.size, 1, none⟩ (.int .u8 49)).cell? ⟨B, 1, none⟩ = some (.int .i64 2) ∧ (wr.setCell ⟨w.heap.size, 1, none⟩ (.int .u8 49)).cell? ⟨B, 2, none⟩ = some (.int .i64 4)) :=
                ⟨by rw [World.cell?_setCell_other _ _ _ _ (by intro e; injection e with e _ _; omega)]; exact HC.out.1, by rw [World.cell?_setCell_other _ _ _ _ (by intro e; injection e with e _ _; omega)]; exact HC.out.2.1, by rw [World.cell?_setCell_other _ _ _ _ (by intro e; injection e with e _ _; omega)]; exact HC.out.2.2⟩
              have HW3 : Aside0 (Below w.heap.size w (wr.setCell ⟨w.heap.size, 1, none⟩ (.int .u8 49))) := ⟨below_set HW.out (Nat.le_refl _)⟩
              clear HB HC HW
              go_wp2
              go_roundg 1
              case measure => omega
              case rel => exact ⟨1 + 1, by omega, rfl, HB3, HC3, HW3⟩
          case _ =>
            have hcell := hc2
            have hd : decide ((2 : Int) < 3) = true := rfl
            obtain ⟨hst, hfr⟩ := HB.out.c 3 (by rw [hlen2.out]; decide)
            have hlr : putn a l0 (2 + 1) = putc a 4 (putn a l0 2) := rfl
            clear hc0 hc1 hc2
            by_cases hy : Go.bits .and .i64 a 4 = 0
            · have hb : (Go.bits .and .i64 a 4 != 0) = false := bne_eq_false_iff_eq.mpr hy
              have hlp : putn a l0 (2 + 1) = putn a l0 2 := by rw [hlr, putc, if_pos hy]
              clear hst hfr
              go_wp2
              go_roundg 0
              case measure => omega
              case rel => exact ⟨2 + 1, by omega, rfl, ⟨by rw [hlp]; exact HB.out⟩, HC, HW⟩
            · have hb : (Go.bits .and .i64 a 4 != 0) = true := bne_iff_ne.mpr hy
              have hlp : putn a l0 (2 + 1) = (putn a l0 2).set 3 49 := by rw [hlr, putc, if_neg hy]; rfl
              have HB3 : Aside0 (BR (wr.setCell ⟨w.heap.size, 3, none⟩ (.int .u8 49)) w.heap.size (putn a l0 (2 + 1))) := ⟨by rw [hlp]; exact HB.out.set 3 (by rw [hlen2.out]; decide) 49⟩
              have HC3 : Aside0 ((wr.setCell ⟨w.heap.size, 3, none⟩ (.int .u8 49)).cell? ⟨B, 0, none⟩ = some (.int .i64 1) ∧ (wr.setCell ⟨w.heap.size, 3, none⟩ (.int .u8 49)).cell? ⟨B, 1, none⟩ = some (.int .i64 2) ∧ (wr.setCell ⟨w.heap.size, 3, none⟩ (.int .u8 49)).cell? ⟨B, 2, none⟩ = some (.int .i64 4)) :=
                ⟨by rw [World.cell?_setCell_other _ _ _ _ (by intro e; injection e with e _ _; omega)]; exact HC.out.1, by rw [World.cell?_setCell_other _ _ _ _ (by intro e; injection e with e _ _; omega)]; exact HC.out.2.1, by rw [World.cell?_setCell_other _ _ _ _ (by intro e; injection e with e _ _; omega)]; exact HC.out.2.2⟩
              have HW3 : Aside0 (Below w.heap.size w (wr.setCell ⟨w.heap.size, 3, none⟩ (.int .u8 49))) := ⟨below_set HW.out (Nat.le_refl _)⟩
              clear HB HC HW
              go_wp2
              go_roundg 0
              case measure => omega
              case rel => exact ⟨2 + 1, by omega, rfl, HB3, HC3, HW3⟩
          case _ =>
            clear hc0 hc1 hc2
            have hback := BR.back HB.out 0 7 cap hlen2.out.symm
            rw [show strOfNums ((putn a l0 3).drop 0) = R from HR.out] at hback
            go_wp2
            go_ret
            exact ⟨rfl, HW.out⟩
      | succ gk =>
        have hilt : (i : Int) < 7 := by omega
        have hcell := (HB.out.c i (by rw [hlen.out]; omega)).1
        have hd : decide ((i : Int) < 7) = true := decide_eq_true hilt
        by_cases hy : l0.getD i 0 = 49
        · have hb : (l0.getD i 0 == 49) = true := beq_iff_eq.mpr hy
          have hs : synd l0 (i + 1) = Go.bits .xor .i64 (synd l0 i) ((i : Int) + 1) := by rw [synd, if_pos hy]
          generalize l0.getD i 0 = y at hcell hb
          go_wp2
          go_roundg gk
          case measure => omega
          case rel => exact ⟨i + 1, by omega, by rw [hs], by go_num, HB, HW⟩
        · have hb : (l0.getD i 0 == 49) = false := beq_eq_false_iff_ne.mpr hy
          have hs : synd l0 (i + 1) = synd l0 i := by rw [synd, if_neg hy]
          generalize l0.getD i 0 = y at hcell hb
          go_wp2
          go_roundg gk
          case measure => omega
          case rel => exact ⟨i + 1, by omega, by rw [hs], by go_num, HB, HW⟩
  · cases h

end Go.Proofs.YtkhoekcjomnaeaaDoor.P
