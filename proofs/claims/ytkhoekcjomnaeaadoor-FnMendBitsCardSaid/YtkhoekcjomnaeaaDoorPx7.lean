/- Written by a program: each theorem '.calls' says that the call of a function of the given program comes to what the Lean function beside it says; no condition but what stands in it. -/
import Derived.Test.YtkhoekcjomnaeaaDoorPx0
import Derived.Test.YtkhoekcjomnaeaaDoorPx1
import Derived.Test.YtkhoekcjomnaeaaDoorPx6
namespace Go.Proofs.YtkhoekcjomnaeaaDoor.P
open Go.RowKit Go.Proofs.YtkhoekcjomnaeaaDoorW.PrintWords Go.Proofs.YtkhoekcjomnaeaaDoorW.PrintLast Go.Proofs.YtkhoekcjomnaeaaDoorW.PrintMore
attribute [local go_sem] max2_int min2_int max_two min_two max_three min_three max_four min_four   -- for this text's walks alone
set_option linter.unusedVariables false
set_option linter.unusedSimpArgs false

/-! ### mine: impl_MendBits: function 8 -/
def mendL (l : List Int) (a : Int) : List Int := if a > 0 then l.set (a - 1).toNat (Go.bits .xor .u8 (l.getD (a - 1).toNat 0) 1) else l
theorem mendL_len (l : List Int) (a : Int) : (mendL l a).length = l.length := by unfold mendL; split <;> simp
def mendR (l : List Int) : ByteArray := strOfNums [l.getD 2 0, l.getD 4 0, l.getD 5 0, l.getD 6 0]
def impl_MendBits.f (a0 : ByteArray) : Option (ByteArray × Int) := if (a0.size : Int) = 7 then ((impl_bitsAlone.f a0).bind fun t => if t = true then (if 0 ≤ synd (bnum a0) 7 ∧ synd (bnum a0) 7 ≤ 7 then some (mendR (mendL (bnum a0) (synd (bnum a0) 7)), synd (bnum a0) 7) else none) else some ((⟨#[]⟩ : ByteArray), -1)) else some ((⟨#[]⟩ : ByteArray), -1)
theorem bnum_bt (s : ByteArray) (i : Nat) (h : i < s.size) : (bnum s).getD i 0 = bt s (i : Int) := by
  unfold bnum bt
  rw [dif_pos (by simpa using h)]
  simp only [List.getD, List.getElem?_map]
  rw [List.getElem?_eq_getElem (by simpa using h)]
  rfl
theorem four_back (W : World) (a b c d : Int) : (convert 25 9 (.slice (some ⟨W.heap.size, 0, none⟩) 4 4)).run Tryd.prog (W.alloc (.cells #[.int .u8 a, .int .u8 b, .int .u8 c, .int .u8 d] 5)).drew = .ok (.string (strOfNums [a, b, c, d])) (W.alloc (.cells #[.int .u8 a, .int .u8 b, .int .u8 c, .int .u8 d] 5)).drew := by
  refine run_convert_bytes_arg (P := Tryd.prog) _ 25 5 Tryd.underlying25 Tryd.underlying5 W.heap.size 0 4 4 [a, b, c, d] rfl (fun i hi => ?_) 9 Tryd.underlying9
  show (W.alloc (.cells #[.int .u8 a, .int .u8 b, .int .u8 c, .int .u8 d] 5)).cell? _ = _
  rw [World.cell?_alloc_mark, Nat.zero_add]
  rcases (show i = 0 ∨ i = 1 ∨ i = 2 ∨ i = 3 by omega) with rfl | rfl | rfl | rfl <;> rfl
set_option maxHeartbeats 4000000 in
theorem impl_MendBits.calls (a0 : ByteArray) (r1 : ByteArray) (r2 : Int) (w : World) (h : impl_MendBits.f a0 = some (r1, r2)) :
    Calls Tryd.prog 8 #[.string a0] w fun e w' => e = .returned (.tuple #[.string r1, .int .i64 r2]) ∧ Below w.heap.size w w' := by
  unfold impl_MendBits.f at h
  by_cases hc : (a0.size : Int) = 7
  · rw [if_pos hc] at h
    obtain ⟨t, ht, h⟩ := Option.bind_eq_some_iff.mp h
    have hcall := impl_bitsAlone.calls a0 t w ht
    clear ht
    have hb0 : ((a0.size : Int) != 7) = false := bne_eq_false_iff_eq.mpr hc
    cases t with
    | false =>
      rw [if_neg (by simp)] at h
      obtain ⟨rfl, rfl⟩ := Prod.mk.inj (Option.some.inj h)
      clear h hc
      go_enter Tryd.func8, Tryd.ntmps8
      go_wp2_with (go_at_call 16; (with_reducible refine hcall.mono ?_); rintro e w' ⟨rfl, hb'⟩)
      go_ret2
      exact ⟨rfl, hb'⟩
    | true =>
      rw [if_pos rfl] at h
      split at h
      · rename_i hr
        obtain ⟨rfl, rfl⟩ := Prod.mk.inj (Option.some.inj h)
        clear h
        have hlen : Aside0 ((bnum a0).length = 7) := ⟨by rw [bnum_len]; omega⟩
        have hbt : Aside0 (∀ i : Nat, i < 7 → (bnum a0).getD i 0 = bt a0 (i : Int)) := ⟨fun i hi => bnum_bt a0 i (by omega)⟩
        have HR := Aside0.mk hr
        clear hr
        generalize hR1 : mendR (mendL (bnum a0) (synd (bnum a0) 7)) = R1
        have HR1 := Aside0.mk hR1
        clear hR1
        generalize hA : synd (bnum a0) 7 = A
        have HA := Aside0.mk hA
        clear hA
        go_enter Tryd.func8, Tryd.ntmps8
        go_wp2_with (go_at_call 16; (with_reducible refine hcall.mono ?_); rintro e w' ⟨rfl, hb'⟩)
        have HB' := Aside0.mk hb'
        clear hb' hcall
        go_loopg [4, 5, 15] 7 (fun gg s4 _ s15 wr => ∃ i : Nat, i + gg = 7 ∧ s4 = .int .i64 (synd (bnum a0) i) ∧ s15 = .int .i64 i ∧ Aside0 (Below w.heap.size w wr))
        case atStart => exact ⟨0, by omega, rfl, rfl, HB'⟩
        case round =>
          clear HB'
          obtain ⟨i, hi, h4, rfl, HW⟩ := hrel
          cases gk with
          | zero =>
            obtain rfl : i = 7 := by omega
            rw [HA.out] at h4
            subst h4
            have hA := HA.out
            rw [hA] at HR HR1
            clear hA HA
            have h7 : a0.size = 7 := by omega
            have hconv := to_bytes wr a0
            have HB0 : Aside0 (BR (wr.alloc (.cells (bytesRow a0 (grownCap wr a0.size 0 5)) 5 ((bytesRow a0 (grownCap wr a0.size 0 5)).size, (bytesRow a0 (grownCap wr a0.size 0 5)).size + 1))).drew wr.heap.size (bnum a0)) := ⟨(BR.new wr a0 _ _ _ _ rfl).drew⟩
            have HW0 : Aside0 (Below w.heap.size w (wr.alloc (.cells (bytesRow a0 (grownCap wr a0.size 0 5)) 5 ((bytesRow a0 (grownCap wr a0.size 0 5)).size, (bytesRow a0 (grownCap wr a0.size 0 5)).size + 1))).drew) := ⟨below_drew (below_alloc HW.out _)⟩
            have hg : w.heap.size ≤ wr.heap.size := HW.out.size
            rw [h7] at hconv HB0 HW0
            generalize grownCap wr 7 0 5 = cap at *
            generalize bytesRow a0 cap = C at *
            generalize bnum a0 = l0 at *
            clear HW hbt
            by_cases hpos : 0 < A
            · have hp : decide (0 < A) = true := decide_eq_true hpos
              have hA0 : 0 ≤ A - 1 := by omega
              have hA7 : A ≤ 7 := HR.out.2
              have hA1 : A - 1 < 7 := by omega
              have hcell : (wr.alloc (.cells C 5 (C.size, C.size + 1))).cell? ⟨wr.heap.size, A.toNat - 1, none⟩ = some (.int .u8 (l0.getD (A.toNat - 1) 0)) := (HB0.out.c (A.toNat - 1) (by rw [hlen.out]; omega)).1
              have hfr : (wr.alloc (.cells C 5 (C.size, C.size + 1))).frozen? ⟨wr.heap.size, A.toNat - 1, none⟩ = false := (HB0.out.c (A.toNat - 1) (by rw [hlen.out]; omega)).2
              have HBn : Aside0 (BR ((wr.alloc (.cells C 5 (C.size, C.size + 1))).setCell ⟨wr.heap.size, A.toNat - 1, none⟩ (.int .u8 (Go.bits .xor .u8 (l0.getD (A.toNat - 1) 0) 1))).drew wr.heap.size (mendL l0 A)) := ⟨by
                unfold mendL
                rw [if_pos (by omega), show (A - 1).toNat = A.toNat - 1 by omega]
                exact (BR.set (w := wr.alloc (.cells C 5 (C.size, C.size + 1))) ⟨HB0.out.c⟩ (A.toNat - 1) (by rw [hlen.out]; omega) _).drew⟩
              have HWn : Aside0 (Below w.heap.size w ((wr.alloc (.cells C 5 (C.size, C.size + 1))).setCell ⟨wr.heap.size, A.toNat - 1, none⟩ (.int .u8 (Go.bits .xor .u8 (l0.getD (A.toNat - 1) 0) 1))).drew) := ⟨below_drew (below_set ⟨HW0.out.os, HW0.out.tape, HW0.out.output, HW0.out.size, HW0.out.block⟩ hg)⟩
              have hlenn : Aside0 ((mendL l0 A).length = 7) := ⟨by rw [mendL_len]; exact hlen.out⟩
              clear HB0 HW0 hlen
              generalize mendL l0 A = ln at *
              generalize l0.getD (A.toNat - 1) 0 = c at *
              go_wp2
              generalize ((wr.alloc (Obj.cells C 5 (C.size, C.size + 1))).setCell ⟨wr.heap.size, A.toNat - 1, none⟩ (.int .u8 (Go.bits .xor .u8 c 1))).drew = V at *
              generalize wr.heap.size = g at *
              obtain ⟨c2, _⟩ := HBn.out.c 2 (by rw [hlenn.out]; decide)
              obtain ⟨c4, _⟩ := HBn.out.c 4 (by rw [hlenn.out]; decide)
              obtain ⟨c5, _⟩ := HBn.out.c 5 (by rw [hlenn.out]; decide)
              obtain ⟨c6, _⟩ := HBn.out.c 6 (by rw [hlenn.out]; decide)
              have hback := four_back V (ln.getD 2 0) (ln.getD 4 0) (ln.getD 5 0) (ln.getD 6 0)
              rw [show strOfNums [ln.getD 2 0, ln.getD 4 0, ln.getD 5 0, ln.getD 6 0] = R1 from HR1.out] at hback
              clear HR1 HR HBn
              generalize ln.getD 2 0 = x2 at c2 hback
              generalize ln.getD 4 0 = x4 at c4 hback
              generalize ln.getD 5 0 = x5 at c5 hback
              generalize ln.getD 6 0 = x6 at c6 hback
              clear hlenn
              go_region
              go_wp2
              go_ret2
              exact ⟨rfl, by repeat (first | exact HWn.out | apply below_alloc | apply below_drew)⟩
            · have hp : decide (0 < A) = false := decide_eq_false hpos
              rw [show mendL l0 A = l0 by unfold mendL; rw [if_neg (by omega)]] at HR1
              go_wp2
              generalize (wr.alloc (Obj.cells C 5 (C.size, C.size + 1))).drew = V at *
              generalize wr.heap.size = g at *
              obtain ⟨c2, _⟩ := HB0.out.c 2 (by rw [hlen.out]; decide)
              obtain ⟨c4, _⟩ := HB0.out.c 4 (by rw [hlen.out]; decide)
              obtain ⟨c5, _⟩ := HB0.out.c 5 (by rw [hlen.out]; decide)
              obtain ⟨c6, _⟩ := HB0.out.c 6 (by rw [hlen.out]; decide)
              have hback := four_back V (l0.getD 2 0) (l0.getD 4 0) (l0.getD 5 0) (l0.getD 6 0)
              rw [show strOfNums [l0.getD 2 0, l0.getD 4 0, l0.getD 5 0, l0.getD 6 0] = R1 from HR1.out] at hback
              clear HR1 HR HB0
              generalize l0.getD 2 0 = x2 at c2 hback
              generalize l0.getD 4 0 = x4 at c4 hback
              generalize l0.getD 5 0 = x5 at c5 hback
              generalize l0.getD 6 0 = x6 at c6 hback
              clear hlen
              go_region
              go_wp2
              go_ret2
              exact ⟨rfl, by repeat (first | exact HW0.out | apply below_alloc | apply below_drew)⟩
          | succ gk =>
            subst h4
            have hilt : (i : Int) < 7 := by omega
            have hd : decide ((i : Int) < 7) = true := decide_eq_true hilt
            have hia : i < a0.size := by omega
            have hx : ((a0[i]'hia).toNat : Int) = (bnum a0).getD i 0 := (bt_at a0 (i : Int) (by simpa using hia)).trans (hbt.out i (by omega)).symm
            by_cases hy : (bnum a0).getD i 0 = 49
            · have hs : synd (bnum a0) (i + 1) = Go.bits .xor .i64 (synd (bnum a0) i) ((i : Int) + 1) := by rw [synd, if_pos hy]
              generalize (bnum a0).getD i 0 = y at hx hy
              have hb : (y == 49) = true := beq_iff_eq.mpr hy
              clear hy
              go_wp2
              go_roundg gk
              case measure => omega
              case rel => exact ⟨i + 1, by omega, by rw [hs], by go_num, HW⟩
            · have hs : synd (bnum a0) (i + 1) = synd (bnum a0) i := by rw [synd, if_neg hy]
              generalize (bnum a0).getD i 0 = y at hx hy
              have hb : (y == 49) = false := beq_eq_false_iff_ne.mpr hy
              clear hy
              go_wp2
              go_roundg gk
              case measure => omega
              case rel => exact ⟨i + 1, by omega, by rw [hs], by go_num, HW⟩
      · cases h
  · rw [if_neg hc] at h
    obtain ⟨rfl, rfl⟩ := Prod.mk.inj (Option.some.inj h)
    clear h
    have hb0 : ((a0.size : Int) != 7) = true := bne_iff_ne.mpr hc
    go_enter Tryd.func8, Tryd.ntmps8
    go_wp2
    go_ret2
    exact ⟨rfl, Below.refl _ _⟩

/-! ### laws_FnExactMendBits: function 3 -/
def laws_FnExactMendBits.f (k : Nat) (a0 : ByteArray) : Option (Bool) := if (a0.size : Int) > 1048576 then (some true) else ((spec_MendBits.f k a0).bind fun bt122 => ((impl_MendBits.f a0).bind fun bt124 => (if bt124.1.toList = bt122.1.toList then (if bt124.2 = bt122.2 then (some true) else (some false)) else (some false))))
theorem laws_FnExactMendBits.mono : ∀ a0 k, LeO (laws_FnExactMendBits.f k a0) (laws_FnExactMendBits.f (k + 1) a0) := by
  intro a0 k
  unfold laws_FnExactMendBits.f
  repeat' first
      | (with_reducible exact spec_MendBits.mono _ _)
      | (with_reducible exact LeO.refl _)
      | (with_reducible exact LeO.none _)
      | (with_reducible refine LeO.ite ?_ ?_)
      | (with_reducible refine LeO.bind ?_ (fun _ => ?_))
      | exact spec_MendBits.mono _ _
      | exact LeO.none _
      | refine LeO.ite ?_ ?_
      | refine LeO.bind ?_ (fun _ => ?_)
set_option maxHeartbeats 8000000 in
set_option maxRecDepth 100000 in
theorem laws_FnExactMendBits.calls (k : Nat) (a0 : ByteArray) (r : Bool) (w : World) (h : laws_FnExactMendBits.f k a0 = some r) :
    Calls Tryd.prog 3 #[.string a0] w fun e w' => e = .returned (.bool r) ∧ Below w.heap.size w w' := by
  have HB := Aside0.mk (Below.refl w.heap.size w)
  have H : (if (a0.size : Int) > 1048576 then (some true) else ((spec_MendBits.f k a0).bind fun bt122 => ((impl_MendBits.f a0).bind fun bt124 => (if bt124.1.toList = bt122.1.toList then (if bt124.2 = bt122.2 then (some true) else (some false)) else (some false))))) = some r := h
  clear h
  by_cases c2 : (a0.size : Int) > 1048576
  · rw [if_pos c2] at H
    have c2b0 : decide (1048576 < (a0.size : Int)) = true := decide_eq_true c2
    have c2b1 : decide (1048576 < a0.size) = true := decide_eq_true (by omega)
    clear c2
    obtain rfl := Option.some.inj H
    go_enter Tryd.func3, Tryd.ntmps3
    go_wp2
    go_ret
    exact ⟨by first | rfl | (simp [errW_none, errW_some] <;> rfl) | (simp [*, errW_none, errW_some] <;> rfl), by repeat (first | (with_reducible first | exact HB.out | apply below_alloc | apply pw_below_drewN | apply below_drew1) | exact HB.out)⟩
  · rw [if_neg c2] at H
    have c2b0 : decide (1048576 < (a0.size : Int)) = false := decide_eq_false c2
    have c2b1 : decide (1048576 < a0.size) = false := decide_eq_false (by omega)
    clear c2
    replace H := Option.bind_eq_some_iff.mp H
    obtain ⟨⟨t122, t123⟩, A30, H⟩ := H
    replace H : ((impl_MendBits.f a0).bind fun bt124 => (if bt124.1.toList = t122.toList then (if bt124.2 = t123 then (some true) else (some false)) else (some false))) = some r := H
    have A3 := Aside0.mk A30
    clear A30
    replace H := Option.bind_eq_some_iff.mp H
    obtain ⟨⟨t124, t125⟩, A40, H⟩ := H
    replace H : (if t124.toList = t122.toList then (if t125 = t123 then (some true) else (some false)) else (some false)) = some r := H
    have A4 := Aside0.mk A40
    clear A40
    by_cases c5 : t124.toList = t122.toList
    · rw [if_pos c5] at H
      have c5b0 : (t124.toList == t122.toList) = true := beq_iff_eq.mpr c5
      have c5b1 : (t124.toList != t122.toList) = false := bne_eq_false_iff_eq.mpr c5
      clear c5
      by_cases c6 : t125 = t123
      · rw [if_pos c6] at H
        have c6b0 : (t125 == t123) = true := beq_iff_eq.mpr c6
        have c6b1 : (t125 != t123) = false := bne_eq_false_iff_eq.mpr c6
        clear c6
        obtain rfl := Option.some.inj H
        go_enter Tryd.func3, Tryd.ntmps3
        go_wp2_with (first | ((with_reducible refine gate_callee (f := 7) rfl ?_); refine goesL_ (some 12) rfl rfl Tryd.func7 (by kernel_rfl) rfl #[.string a0] rfl (by (try simp only [List.map_toArray, List.map_cons, List.map_nil]); first | done | rfl | (simp only [List.length_drop, List.length_take]; rfl)) ?_; (with_reducible refine (spec_MendBits.calls k a0 t122 t123 _ A3.out).mono ?_); rintro e w' ⟨rfl, ⟨nd, rfl⟩⟩; refine ⟨_, rfl, ?_⟩) | ((with_reducible refine gate_callee (f := 8) rfl ?_); refine goesL_ (some 17) rfl rfl Tryd.func8 (by kernel_rfl) rfl #[.string a0] rfl (by (try simp only [List.map_toArray, List.map_cons, List.map_nil]); first | done | rfl | (simp only [List.length_drop, List.length_take]; rfl)) ?_; (with_reducible refine (impl_MendBits.calls a0 t124 t125 _ A4.out).mono ?_); rintro e w7 ⟨rfl, hb⟩; refine ⟨_, rfl, ?_⟩; have n0_ := Aside0.mk (below_step (by repeat (first | (with_reducible first | exact HB.out | apply below_alloc | apply pw_below_drewN | apply below_drew1) | exact HB.out)) hb); clear HB; have HB := n0_; clear n0_; (try clear hb); (try clear hb2); (try clear hk); (try clear hi)))
        go_ret
        exact ⟨by first | rfl | (simp [errW_none, errW_some] <;> rfl) | (simp [*, errW_none, errW_some] <;> rfl), by repeat (first | (with_reducible first | exact HB.out | apply below_alloc | apply pw_below_drewN | apply below_drew1) | exact HB.out)⟩
      · rw [if_neg c6] at H
        have c6b0 : (t125 == t123) = false := beq_eq_false_iff_ne.mpr c6
        have c6b1 : (t125 != t123) = true := bne_iff_ne.mpr c6
        obtain rfl := Option.some.inj H
        go_enter Tryd.func3, Tryd.ntmps3
        go_wp2_with (first | ((with_reducible refine gate_callee (f := 7) rfl ?_); refine goesL_ (some 12) rfl rfl Tryd.func7 (by kernel_rfl) rfl #[.string a0] rfl (by (try simp only [List.map_toArray, List.map_cons, List.map_nil]); first | done | rfl | (simp only [List.length_drop, List.length_take]; rfl)) ?_; (with_reducible refine (spec_MendBits.calls k a0 t122 t123 _ A3.out).mono ?_); rintro e w' ⟨rfl, ⟨nd, rfl⟩⟩; refine ⟨_, rfl, ?_⟩) | ((with_reducible refine gate_callee (f := 8) rfl ?_); refine goesL_ (some 17) rfl rfl Tryd.func8 (by kernel_rfl) rfl #[.string a0] rfl (by (try simp only [List.map_toArray, List.map_cons, List.map_nil]); first | done | rfl | (simp only [List.length_drop, List.length_take]; rfl)) ?_; (with_reducible refine (impl_MendBits.calls a0 t124 t125 _ A4.out).mono ?_); rintro e w8 ⟨rfl, hb⟩; refine ⟨_, rfl, ?_⟩; have n0_ := Aside0.mk (below_step (by repeat (first | (with_reducible first | exact HB.out | apply below_alloc | apply pw_below_drewN | apply below_drew1) | exact HB.out)) hb); clear HB; have HB := n0_; clear n0_; (try clear hb); (try clear hb2); (try clear hk); (try clear hi)))
        go_ret
        exact ⟨by first | rfl | (simp [errW_none, errW_some] <;> rfl) | (simp [*, errW_none, errW_some] <;> rfl), by repeat (first | (with_reducible first | exact HB.out | apply below_alloc | apply pw_below_drewN | apply below_drew1) | exact HB.out)⟩
    · rw [if_neg c5] at H
      have c5b0 : (t124.toList == t122.toList) = false := beq_eq_false_iff_ne.mpr c5
      have c5b1 : (t124.toList != t122.toList) = true := bne_iff_ne.mpr c5
      obtain rfl := Option.some.inj H
      go_enter Tryd.func3, Tryd.ntmps3
      go_wp2_with (first | ((with_reducible refine gate_callee (f := 7) rfl ?_); refine goesL_ (some 12) rfl rfl Tryd.func7 (by kernel_rfl) rfl #[.string a0] rfl (by (try simp only [List.map_toArray, List.map_cons, List.map_nil]); first | done | rfl | (simp only [List.length_drop, List.length_take]; rfl)) ?_; (with_reducible refine (spec_MendBits.calls k a0 t122 t123 _ A3.out).mono ?_); rintro e w' ⟨rfl, ⟨nd, rfl⟩⟩; refine ⟨_, rfl, ?_⟩) | ((with_reducible refine gate_callee (f := 8) rfl ?_); refine goesL_ (some 17) rfl rfl Tryd.func8 (by kernel_rfl) rfl #[.string a0] rfl (by (try simp only [List.map_toArray, List.map_cons, List.map_nil]); first | done | rfl | (simp only [List.length_drop, List.length_take]; rfl)) ?_; (with_reducible refine (impl_MendBits.calls a0 t124 t125 _ A4.out).mono ?_); rintro e w9 ⟨rfl, hb⟩; refine ⟨_, rfl, ?_⟩; have n0_ := Aside0.mk (below_step (by repeat (first | (with_reducible first | exact HB.out | apply below_alloc | apply pw_below_drewN | apply below_drew1) | exact HB.out)) hb); clear HB; have HB := n0_; clear n0_; (try clear hb); (try clear hb2); (try clear hk); (try clear hi)))
      go_ret
      exact ⟨by first | rfl | (simp [errW_none, errW_some] <;> rfl) | (simp [*, errW_none, errW_some] <;> rfl), by repeat (first | (with_reducible first | exact HB.out | apply below_alloc | apply pw_below_drewN | apply below_drew1) | exact HB.out)⟩

/-- THE ONE PURE STATEMENT of laws_FnExactMendBits: yours. -/
def laws_FnExactMendBits.Pure : Prop := ∀ (a0 : ByteArray), a0.size ≤ 140737488351232 → ∃ k, laws_FnExactMendBits.f k a0 = some true
theorem laws_FnExactMendBits.walk (P : laws_FnExactMendBits.Pure) (a0 : ByteArray) (w : World) (w0 : a0.size ≤ 140737488351232) :
    Calls Tryd.prog 3 #[.string a0] w fun e w' => e = .returned (.bool true) ∧ Below w.heap.size w w' := by
  obtain ⟨k, h⟩ := P a0 w0
  refine (laws_FnExactMendBits.calls k a0 true w h).mono ?_
  rintro e w' ⟨rfl, hd⟩
  exact ⟨rfl, hd⟩

end Go.Proofs.YtkhoekcjomnaeaaDoor.P
