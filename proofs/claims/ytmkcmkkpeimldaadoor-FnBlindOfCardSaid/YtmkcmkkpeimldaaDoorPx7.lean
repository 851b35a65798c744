/- Written by a program: each theorem '.calls' says that the call of a function of the given program comes to what the Lean function beside it says; no condition but what stands in it. -/
import Derived.Test.YtmkcmkkpeimldaaDoorPx0
import Derived.Test.YtmkcmkkpeimldaaDoorPx3
import Derived.Test.YtmkcmkkpeimldaaDoorPx6
namespace Go.Proofs.YtmkcmkkpeimldaaDoor.P
open Go.RowKit Go.Proofs.YtmkcmkkpeimldaaDoorW.PrintWords Go.Proofs.YtmkcmkkpeimldaaDoorW.PrintLast Go.Proofs.YtmkcmkkpeimldaaDoorW.PrintMore
attribute [local go_sem] max2_int min2_int max_two min_two max_three min_three max_four min_four   -- for this text's walks alone
set_option linter.unusedVariables false
set_option linter.unusedSimpArgs false

/-! ### mine: impl_rest: function 50 -/
/-- One byte turned where the divisor has a one. -/
def xorAt (l : List Int) (p : ByteArray) (i k : Nat) : List Int := l.set (i + k) (Go.bits .xor .u8 (l.getD (i + k) 0) ((bt p (k : Int) - 48) % 256))
def rin (p : ByteArray) (i : Nat) : Nat → Nat → List Int → List Int
  | 0, _, l => l
  | d + 1, k, l => rin p i d (k + 1) (xorAt l p i k)
def rout (p : ByteArray) : Nat → Nat → List Int → List Int
  | 0, _, l => l
  | d + 1, i, l => rout p d (i + 1) (if l.getD i 0 = 48 then l else rin p i p.size 0 l)
def impl_rest.f (a0 : ByteArray) (a1 : ByteArray) : Option (ByteArray) := if 2 ≤ a0.size ∧ a0.size ≤ a1.size + 1 ∧ a1.size ≤ 1000000000 then some (strOfNums ((rout a0 (a1.size + 1 - a0.size) 0 (bnum a1)).drop (a1.size + 1 - a0.size))) else none
theorem xorAt_len (l : List Int) (p : ByteArray) (i k : Nat) : (xorAt l p i k).length = l.length := by simp [xorAt]
set_option maxHeartbeats 4000000 in
theorem impl_rest.calls (a0 : ByteArray) (a1 : ByteArray) (r : ByteArray) (w : World) (h : impl_rest.f a0 a1 = some r) :
    Calls Tryd.prog 50 #[.string a0, .string a1] w fun e w' => e = .returned (.string r) ∧ Below w.heap.size w w' := by
  unfold impl_rest.f at h
  split at h
  · rename_i hc
    obtain ⟨h1, h2, h3⟩ := hc
    cases h
    have hconv := to_bytes w a1
    have HB0 : Aside0 (BR (w.alloc (.cells (bytesRow a1 (grownCap w a1.size 0 5)) 5 ((bytesRow a1 (grownCap w a1.size 0 5)).size, (bytesRow a1 (grownCap w a1.size 0 5)).size + 1))).drew w.heap.size (bnum a1)) := ⟨(BR.new w a1 _ _ _ _ rfl).drew⟩
    have HW0 : Aside0 (Below w.heap.size w (w.alloc (.cells (bytesRow a1 (grownCap w a1.size 0 5)) 5 ((bytesRow a1 (grownCap w a1.size 0 5)).size, (bytesRow a1 (grownCap w a1.size 0 5)).size + 1))).drew) := ⟨below_drew ((Below.refl _ w).alloc (Nat.le_refl _) _)⟩
    have hlen : Aside0 ((bnum a1).length = a1.size) := ⟨bnum_len a1⟩
    have hcapn : a1.size ≤ grownCap w a1.size 0 5 := grownCap_ge ..
    generalize grownCap w a1.size 0 5 = cap at *
    generalize bytesRow a1 cap = C at *
    generalize bnum a1 = l0 at *
    generalize hL : rout a0 (a1.size + 1 - a0.size) 0 l0 = L
    have HL := Aside0.mk hL
    clear hL
    generalize hR : strOfNums (L.drop (a1.size + 1 - a0.size)) = R
    have HR := Aside0.mk hR
    clear hR
    have ho : ((a1.size : Int) - (a0.size : Int) + 1).toNat = a1.size + 1 - a0.size := by omega
    have hne : ¬ cap = ((a1.size : Int) - (a0.size : Int) + 1).toNat := by omega
    have HO := Aside0.mk ho
    clear ho
    go_enter Tryd.func50, Tryd.ntmps50
    go_wp2
    go_loopg [6, 7, 26] (a1.size + 1 - a0.size) (fun gg s6 _ _ wr => ∃ (i : Nat) (l : List Int), i + gg = a1.size + 1 - a0.size ∧ s6 = .int .i64 i ∧ Aside0 (BR wr w.heap.size l) ∧ Aside0 (l.length = a1.size) ∧ Aside0 (Below w.heap.size w wr) ∧ Aside0 (rout a0 gg i l = L))
    case atStart => exact ⟨0, l0, by omega, rfl, HB0, hlen, HW0, HL⟩
    case round =>
      clear HB0 hlen HW0 HL hconv
      obtain ⟨i, l, hi, rfl, HB, hlen, HW, HL⟩ := hrel
      cases gk with
      | zero =>
        have hd : decide ((i : Int) + (a0.size : Int) ≤ (a1.size : Int)) = false := decide_eq_false (by omega)
        have hz : (i : Int) + (a0.size : Int) = (a1.size : Int) + 1 := by omega
        have hback : (convert 23 9 (.slice (some ⟨w.heap.size, ((a1.size : Int) - (a0.size : Int) + 1).toNat, none⟩) (a1.size - ((a1.size : Int) - (a0.size : Int) + 1).toNat) (cap - ((a1.size : Int) - (a0.size : Int) + 1).toNat))).run Tryd.prog wr = .ok (.string R) wr := by
          have e : l = L := HL.out
          rw [BR.back HB.out _ _ _ hlen.out.symm, HO.out, e, HR.out]
        go_wp2
        go_ret
        exact ⟨rfl, HW.out⟩
      | succ gout =>
        have hd : decide ((i : Int) + (a0.size : Int) ≤ (a1.size : Int)) = true := decide_eq_true (by omega)
        have hcell := (HB.out.c i (by rw [hlen.out]; omega)).1
        clear hne
        have hilt : (i : Int) < (a1.size : Int) := by omega
        by_cases hy : l.getD i 0 = 48
        · rw [hy] at hcell
          have HL2 : Aside0 (rout a0 gout (i + 1) l = L) := ⟨by have := HL.out; rw [rout, if_pos hy] at this; exact this⟩
          clear HL
          go_wp2
          go_roundg gout
          case measure => omega
          case rel => exact ⟨i + 1, l, by omega, by go_num, HB, hlen, HW, HL2⟩
        · have hb : (l.getD i 0 == 48) = false := beq_eq_false_iff_ne.mpr hy
          have HL2 : Aside0 (rout a0 gout (i + 1) (rin a0 i a0.size 0 l) = L) := ⟨by have := HL.out; rw [rout, if_neg hy] at this; exact this⟩
          clear HL hy
          generalize l.getD i 0 = y at hcell hb
          generalize hl2 : rin a0 i a0.size 0 l = l2 at HL2
          have Hl2 := Aside0.mk hl2
          clear hl2
          go_wp2
          clear hcell
          go_loopg [7, 26] a0.size (fun gg _ s26 wr2 => ∃ (k : Nat) (l' : List Int), k + gg = a0.size ∧ s26 = .int .i64 k ∧ Aside0 (BR wr2 w.heap.size l') ∧ Aside0 (l'.length = a1.size) ∧ Aside0 (Below w.heap.size w wr2) ∧ Aside0 (rin a0 i gg k l' = l2))
          case atStart => exact ⟨0, l, by omega, rfl, HB, hlen, HW, Hl2⟩
          case round =>
            clear HB hlen HW Hl2
            obtain ⟨k, l', hk, rfl, HB, hlen, HW, Hl2⟩ := hrel
            cases gk with
            | zero =>
              have hdk : decide ((k : Int) < (a0.size : Int)) = false := decide_eq_false (by omega)
              have HL3 : Aside0 (rout a0 gout (i + 1) l' = L) := ⟨by have e : l' = l2 := Hl2.out; rw [e]; exact HL2.out⟩
              clear HL2
              go_wp2
              go_roundg gout
              case measure => omega
              case rel => exact ⟨i + 1, l', by omega, by go_num, HB, hlen, HW, HL3⟩
            | succ gj =>
              have hdk : decide ((k : Int) < (a0.size : Int)) = true := decide_eq_true (by omega)
              have hik : ((i : Int) + (k : Int)) < (a1.size : Int) := by omega
              obtain ⟨hcell, hfr⟩ := HB.out.c (i + k) (by rw [hlen.out]; omega)
              have hto : ((i : Int) + (k : Int)).toNat = i + k := by omega
              have hnn : 0 ≤ (i : Int) + (k : Int) := by omega
              have hka : k < a0.size := by omega
              have hx : ((a0[k]'hka).toNat : Int) = bt a0 (k : Int) := bt_at a0 (k : Int) (by simpa using hka)
              generalize hc : l'.getD (i + k) 0 = c at hcell
              generalize hz2 : bt a0 (k : Int) = z at hx
              have e2 : Go.bits .xor .u8 c ((z - 48) % 256) = Go.bits .xor .u8 (l'.getD (i + k) 0) ((bt a0 (k : Int) - 48) % 256) := by rw [hc, hz2]
              have HBn : Aside0 (BR (wr.setCell ⟨w.heap.size, i + k, none⟩ (.int .u8 (Go.bits .xor .u8 c ((z - 48) % 256)))).drew w.heap.size (xorAt l' a0 i k)) := ⟨by
                have := (HB.out.set (i + k) (by rw [hlen.out]; omega) (Go.bits .xor .u8 c ((z - 48) % 256))).drew
                rw [e2] at this ⊢
                exact this⟩
              have HWn : Aside0 (Below w.heap.size w (wr.setCell ⟨w.heap.size, i + k, none⟩ (.int .u8 (Go.bits .xor .u8 c ((z - 48) % 256)))).drew) := ⟨below_drew (below_set HW.out (Nat.le_refl _))⟩
              have hlenn : Aside0 ((xorAt l' a0 i k).length = a1.size) := ⟨by rw [xorAt_len]; exact hlen.out⟩
              have Hl3 : Aside0 (rin a0 i gj (k + 1) (xorAt l' a0 i k) = l2) := ⟨Hl2.out⟩
              clear HB HW hlen Hl2 e2 hc hz2
              generalize xorAt l' a0 i k = ln at HBn hlenn Hl3
              go_wp2
              go_region
              go_wp2
              go_roundg gj
              case measure => omega
              case rel => exact ⟨k + 1, ln, by omega, by go_num, HBn, hlenn, HWn, Hl3⟩
  · cases h

/-! ### impl_RestOf: function 20 -/
def impl_RestOf.f (a0 : ByteArray) (a1 : ByteArray) : Option (ByteArray) := (impl_ValidPoly.f a0).bind fun t113 => (if t113 = true then ((impl_ValidBits.f a1).bind fun t114 => (if t114 = true then (if (a1.size : Int) < (wrap64 ((a0.size : Int) - 1)) then (some (⟨#[]⟩ : ByteArray)) else ((impl_rest.f a0 a1).bind fun t115 => (some t115))) else (some (⟨#[]⟩ : ByteArray)))) else (some (⟨#[]⟩ : ByteArray)))
set_option maxHeartbeats 8000000 in
set_option maxRecDepth 100000 in
theorem impl_RestOf.calls (a0 : ByteArray) (a1 : ByteArray) (r : ByteArray) (w : World) (h : impl_RestOf.f a0 a1 = some r) :
    Calls Tryd.prog 20 #[.string a0, .string a1] w fun e w' => e = .returned (.string r) ∧ Below w.heap.size w w' := by
  have HB := Aside0.mk (Below.refl w.heap.size w)
  have H : ((impl_ValidPoly.f a0).bind fun t113 => (if t113 = true then ((impl_ValidBits.f a1).bind fun t114 => (if t114 = true then (if (a1.size : Int) < (wrap64 ((a0.size : Int) - 1)) then (some (⟨#[]⟩ : ByteArray)) else ((impl_rest.f a0 a1).bind fun t115 => (some t115))) else (some (⟨#[]⟩ : ByteArray)))) else (some (⟨#[]⟩ : ByteArray)))) = some r := h
  clear h
  replace H := Option.bind_eq_some_iff.mp H
  obtain ⟨t113, A30, H⟩ := H
  replace H : (if t113 = true then ((impl_ValidBits.f a1).bind fun t114 => (if t114 = true then (if (a1.size : Int) < (wrap64 ((a0.size : Int) - 1)) then (some (⟨#[]⟩ : ByteArray)) else ((impl_rest.f a0 a1).bind fun t115 => (some t115))) else (some (⟨#[]⟩ : ByteArray)))) else (some (⟨#[]⟩ : ByteArray))) = some r := H
  have A3 := Aside0.mk A30
  clear A30
  by_cases c4 : t113 = true
  · subst c4
    have H1 : ((impl_ValidBits.f a1).bind fun t114 => (if t114 = true then (if (a1.size : Int) < (wrap64 ((a0.size : Int) - 1)) then (some (⟨#[]⟩ : ByteArray)) else ((impl_rest.f a0 a1).bind fun t115 => (some t115))) else (some (⟨#[]⟩ : ByteArray)))) = some r := by rw [if_pos rfl] at H; exact H
    clear H
    have H := H1
    clear H1
    replace H := Option.bind_eq_some_iff.mp H
    obtain ⟨t114, A50, H⟩ := H
    replace H : (if t114 = true then (if (a1.size : Int) < (wrap64 ((a0.size : Int) - 1)) then (some (⟨#[]⟩ : ByteArray)) else ((impl_rest.f a0 a1).bind fun t115 => (some t115))) else (some (⟨#[]⟩ : ByteArray))) = some r := H
    have A5 := Aside0.mk A50
    clear A50
    by_cases c6 : t114 = true
    · subst c6
      have H1 : (if (a1.size : Int) < (wrap64 ((a0.size : Int) - 1)) then (some (⟨#[]⟩ : ByteArray)) else ((impl_rest.f a0 a1).bind fun t115 => (some t115))) = some r := by rw [if_pos rfl] at H; exact H
      clear H
      have H := H1
      clear H1
      by_cases c7 : (a1.size : Int) < (wrap64 ((a0.size : Int) - 1))
      · rw [if_pos c7] at H
        have c7b0 : decide ((a1.size : Int) < (wrap64 ((a0.size : Int) - 1))) = true := decide_eq_true c7
        clear c7
        obtain rfl := Option.some.inj H
        go_enter Tryd.func20, Tryd.ntmps20
        go_wp2_with (first | ((with_reducible refine gate_callee (f := 16) rfl ?_); refine goesL_ (some 6) rfl rfl Tryd.func16 (by kernel_rfl) rfl #[.string a0] rfl (by (try simp only [List.map_toArray, List.map_cons, List.map_nil]); first | done | rfl | (simp only [List.length_drop, List.length_take]; rfl)) ?_; (with_reducible refine (impl_ValidPoly.calls a0 true _ A3.out).mono ?_); rintro e w8 ⟨rfl, hb⟩; refine ⟨_, rfl, ?_⟩; have n0_ := Aside0.mk (below_step (by repeat (first | (with_reducible first | exact HB.out | apply below_alloc | apply pw_below_drewN | apply below_drew1) | exact HB.out)) hb); clear HB; have HB := n0_; clear n0_; (try clear hb); (try clear hb2); (try clear hk); (try clear hi)) | (go_at_call 49; (with_reducible refine (impl_ValidBits.calls a1 true _ A5.out).mono ?_); rintro e w9 ⟨rfl, hb⟩; have n0_ := Aside0.mk (below_step (by repeat (first | (with_reducible first | exact HB.out | apply below_alloc | apply pw_below_drewN | apply below_drew1) | exact HB.out)) hb); clear HB; have HB := n0_; clear n0_; (try clear hb); (try clear hb2); (try clear hk); (try clear hi)))
        go_ret
        exact ⟨by first | rfl | (simp [errW_none, errW_some] <;> rfl) | (simp [*, errW_none, errW_some] <;> rfl), by repeat (first | (with_reducible first | exact HB.out | apply below_alloc | apply pw_below_drewN | apply below_drew1) | exact HB.out)⟩
      · rw [if_neg c7] at H
        have c7b0 : decide ((a1.size : Int) < (wrap64 ((a0.size : Int) - 1))) = false := decide_eq_false c7
        clear c7
        replace H := Option.bind_eq_some_iff.mp H
        obtain ⟨t115, A100, H⟩ := H
        replace H : (some t115) = some r := H
        have A10 := Aside0.mk A100
        clear A100
        obtain rfl := Option.some.inj H
        go_enter Tryd.func20, Tryd.ntmps20
        go_wp2_with (first | ((with_reducible refine gate_callee (f := 16) rfl ?_); refine goesL_ (some 6) rfl rfl Tryd.func16 (by kernel_rfl) rfl #[.string a0] rfl (by (try simp only [List.map_toArray, List.map_cons, List.map_nil]); first | done | rfl | (simp only [List.length_drop, List.length_take]; rfl)) ?_; (with_reducible refine (impl_ValidPoly.calls a0 true _ A3.out).mono ?_); rintro e w11 ⟨rfl, hb⟩; refine ⟨_, rfl, ?_⟩; have n0_ := Aside0.mk (below_step (by repeat (first | (with_reducible first | exact HB.out | apply below_alloc | apply pw_below_drewN | apply below_drew1) | exact HB.out)) hb); clear HB; have HB := n0_; clear n0_; (try clear hb); (try clear hb2); (try clear hk); (try clear hi)) | (go_at_call 49; (with_reducible refine (impl_ValidBits.calls a1 true _ A5.out).mono ?_); rintro e w12 ⟨rfl, hb⟩; have n0_ := Aside0.mk (below_step (by repeat (first | (with_reducible first | exact HB.out | apply below_alloc | apply pw_below_drewN | apply below_drew1) | exact HB.out)) hb); clear HB; have HB := n0_; clear n0_; (try clear hb); (try clear hb2); (try clear hk); (try clear hi)) | ((with_reducible refine gate_callee (f := 50) rfl ?_); refine goesL_ (some 23) rfl rfl Tryd.func50 (by kernel_rfl) rfl #[.string a0, .string a1] rfl (by (try simp only [List.map_toArray, List.map_cons, List.map_nil]); first | done | rfl | (simp only [List.length_drop, List.length_take]; rfl)) ?_; (with_reducible refine (impl_rest.calls a0 a1 t115 _ A10.out).mono ?_); rintro e w13 ⟨rfl, hb⟩; refine ⟨_, rfl, ?_⟩; have n0_ := Aside0.mk (below_step (by repeat (first | (with_reducible first | exact HB.out | apply below_alloc | apply pw_below_drewN | apply below_drew1) | exact HB.out)) hb); clear HB; have HB := n0_; clear n0_; (try clear hb); (try clear hb2); (try clear hk); (try clear hi)))
        go_ret
        exact ⟨by first | rfl | (simp [errW_none, errW_some] <;> rfl) | (simp [*, errW_none, errW_some] <;> rfl), by repeat (first | (with_reducible first | exact HB.out | apply below_alloc | apply pw_below_drewN | apply below_drew1) | exact HB.out)⟩
    · replace c6 := Bool.eq_false_iff.mpr c6
      subst c6
      have H1 : (some (⟨#[]⟩ : ByteArray)) = some r := by rw [if_neg (show ¬ (false = true) by decide)] at H; exact H
      clear H
      have H := H1
      clear H1
      obtain rfl := Option.some.inj H
      go_enter Tryd.func20, Tryd.ntmps20
      go_wp2_with (first | ((with_reducible refine gate_callee (f := 16) rfl ?_); refine goesL_ (some 6) rfl rfl Tryd.func16 (by kernel_rfl) rfl #[.string a0] rfl (by (try simp only [List.map_toArray, List.map_cons, List.map_nil]); first | done | rfl | (simp only [List.length_drop, List.length_take]; rfl)) ?_; (with_reducible refine (impl_ValidPoly.calls a0 true _ A3.out).mono ?_); rintro e w14 ⟨rfl, hb⟩; refine ⟨_, rfl, ?_⟩; have n0_ := Aside0.mk (below_step (by repeat (first | (with_reducible first | exact HB.out | apply below_alloc | apply pw_below_drewN | apply below_drew1) | exact HB.out)) hb); clear HB; have HB := n0_; clear n0_; (try clear hb); (try clear hb2); (try clear hk); (try clear hi)) | (go_at_call 49; (with_reducible refine (impl_ValidBits.calls a1 false _ A5.out).mono ?_); rintro e w15 ⟨rfl, hb⟩; have n0_ := Aside0.mk (below_step (by repeat (first | (with_reducible first | exact HB.out | apply below_alloc | apply pw_below_drewN | apply below_drew1) | exact HB.out)) hb); clear HB; have HB := n0_; clear n0_; (try clear hb); (try clear hb2); (try clear hk); (try clear hi)))
      go_ret
      exact ⟨by first | rfl | (simp [errW_none, errW_some] <;> rfl) | (simp [*, errW_none, errW_some] <;> rfl), by repeat (first | (with_reducible first | exact HB.out | apply below_alloc | apply pw_below_drewN | apply below_drew1) | exact HB.out)⟩
  · replace c4 := Bool.eq_false_iff.mpr c4
    subst c4
    have H1 : (some (⟨#[]⟩ : ByteArray)) = some r := by rw [if_neg (show ¬ (false = true) by decide)] at H; exact H
    clear H
    have H := H1
    clear H1
    obtain rfl := Option.some.inj H
    go_enter Tryd.func20, Tryd.ntmps20
    go_wp2_with (first | ((with_reducible refine gate_callee (f := 16) rfl ?_); refine goesL_ (some 6) rfl rfl Tryd.func16 (by kernel_rfl) rfl #[.string a0] rfl (by (try simp only [List.map_toArray, List.map_cons, List.map_nil]); first | done | rfl | (simp only [List.length_drop, List.length_take]; rfl)) ?_; (with_reducible refine (impl_ValidPoly.calls a0 false _ A3.out).mono ?_); rintro e w16 ⟨rfl, hb⟩; refine ⟨_, rfl, ?_⟩; have n0_ := Aside0.mk (below_step (by repeat (first | (with_reducible first | exact HB.out | apply below_alloc | apply pw_below_drewN | apply below_drew1) | exact HB.out)) hb); clear HB; have HB := n0_; clear n0_; (try clear hb); (try clear hb2); (try clear hk); (try clear hi)))
    go_ret
    exact ⟨by first | rfl | (simp [errW_none, errW_some] <;> rfl) | (simp [*, errW_none, errW_some] <;> rfl), by repeat (first | (with_reducible first | exact HB.out | apply below_alloc | apply pw_below_drewN | apply below_drew1) | exact HB.out)⟩

end Go.Proofs.YtmkcmkkpeimldaaDoor.P
