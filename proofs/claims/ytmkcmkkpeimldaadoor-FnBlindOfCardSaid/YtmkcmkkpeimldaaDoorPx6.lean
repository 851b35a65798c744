/- Written by a program: each theorem '.calls' says that the call of a function of the given program comes to what the Lean function beside it says; no condition but what stands in it. -/
import Derived.Test.YtmkcmkkpeimldaaDoorPx0
import Derived.Test.YtmkcmkkpeimldaaDoorPx1
import Derived.Test.YtmkcmkkpeimldaaDoorPx2
import Derived.Test.YtmkcmkkpeimldaaDoorPx5
namespace Go.Proofs.YtmkcmkkpeimldaaDoor.P
open Go.RowKit Go.Proofs.YtmkcmkkpeimldaaDoorW.PrintWords Go.Proofs.YtmkcmkkpeimldaaDoorW.PrintLast Go.Proofs.YtmkcmkkpeimldaaDoorW.PrintMore
attribute [local go_sem] max2_int min2_int max_two min_two max_three min_three max_four min_four   -- for this text's walks alone
set_option linter.unusedVariables false
set_option linter.unusedSimpArgs false

/-! ### spec_RestOf: function 19 -/
def spec_RestOf.f (k : Nat) (a0 : ByteArray) (a1 : ByteArray) : Option (ByteArray) := (spec_validPoly.f k a0).bind fun t109 => (if t109 = true then ((spec_validBits.f k a1).bind fun t110 => (if t110 = true then (if (a1.size : Int) < (wrap64 ((a0.size : Int) - 1)) then (some (⟨#[]⟩ : ByteArray)) else ((spec_remainder.f k a0 a1).bind fun t111 => (some t111))) else (some (⟨#[]⟩ : ByteArray)))) else (some (⟨#[]⟩ : ByteArray)))
theorem spec_RestOf.mono : ∀ a0 a1 k, LeO (spec_RestOf.f k a0 a1) (spec_RestOf.f (k + 1) a0 a1) := by
  intro a0 a1 k
  unfold spec_RestOf.f
  repeat' first
      | (with_reducible exact spec_remainder.mono _ _ _)
      | (with_reducible exact spec_validBits.mono _ _)
      | (with_reducible exact spec_validPoly.mono _ _)
      | (with_reducible exact LeO.refl _)
      | (with_reducible exact LeO.none _)
      | (with_reducible refine LeO.ite ?_ ?_)
      | (with_reducible refine LeO.bind ?_ (fun _ => ?_))
      | exact spec_remainder.mono _ _ _
      | exact spec_validBits.mono _ _
      | exact spec_validPoly.mono _ _
      | exact LeO.none _
      | refine LeO.ite ?_ ?_
      | refine LeO.bind ?_ (fun _ => ?_)
set_option maxHeartbeats 8000000 in
set_option maxRecDepth 100000 in
theorem spec_RestOf.calls (k : Nat) (a0 : ByteArray) (a1 : ByteArray) (r : ByteArray) (w : World) (h : spec_RestOf.f k a0 a1 = some r) :
    Calls Tryd.prog 19 #[.string a0, .string a1] w fun e w' => e = .returned (.string r) ∧ Below w.heap.size w w' := by
  have HB := Aside0.mk (Below.refl w.heap.size w)
  have H : ((spec_validPoly.f k a0).bind fun t109 => (if t109 = true then ((spec_validBits.f k a1).bind fun t110 => (if t110 = true then (if (a1.size : Int) < (wrap64 ((a0.size : Int) - 1)) then (some (⟨#[]⟩ : ByteArray)) else ((spec_remainder.f k a0 a1).bind fun t111 => (some t111))) else (some (⟨#[]⟩ : ByteArray)))) else (some (⟨#[]⟩ : ByteArray)))) = some r := h
  clear h
  replace H := Option.bind_eq_some_iff.mp H
  obtain ⟨t109, A30, H⟩ := H
  replace H : (if t109 = true then ((spec_validBits.f k a1).bind fun t110 => (if t110 = true then (if (a1.size : Int) < (wrap64 ((a0.size : Int) - 1)) then (some (⟨#[]⟩ : ByteArray)) else ((spec_remainder.f k a0 a1).bind fun t111 => (some t111))) else (some (⟨#[]⟩ : ByteArray)))) else (some (⟨#[]⟩ : ByteArray))) = some r := H
  have A3 := Aside0.mk A30
  clear A30
  by_cases c4 : t109 = true
  · subst c4
    have H1 : ((spec_validBits.f k a1).bind fun t110 => (if t110 = true then (if (a1.size : Int) < (wrap64 ((a0.size : Int) - 1)) then (some (⟨#[]⟩ : ByteArray)) else ((spec_remainder.f k a0 a1).bind fun t111 => (some t111))) else (some (⟨#[]⟩ : ByteArray)))) = some r := by rw [if_pos rfl] at H; exact H
    clear H
    have H := H1
    clear H1
    replace H := Option.bind_eq_some_iff.mp H
    obtain ⟨t110, A50, H⟩ := H
    replace H : (if t110 = true then (if (a1.size : Int) < (wrap64 ((a0.size : Int) - 1)) then (some (⟨#[]⟩ : ByteArray)) else ((spec_remainder.f k a0 a1).bind fun t111 => (some t111))) else (some (⟨#[]⟩ : ByteArray))) = some r := H
    have A5 := Aside0.mk A50
    clear A50
    by_cases c6 : t110 = true
    · subst c6
      have H1 : (if (a1.size : Int) < (wrap64 ((a0.size : Int) - 1)) then (some (⟨#[]⟩ : ByteArray)) else ((spec_remainder.f k a0 a1).bind fun t111 => (some t111))) = some r := by rw [if_pos rfl] at H; exact H
      clear H
      have H := H1
      clear H1
      by_cases c7 : (a1.size : Int) < (wrap64 ((a0.size : Int) - 1))
      · rw [if_pos c7] at H
        have c7b0 : decide ((a1.size : Int) < (wrap64 ((a0.size : Int) - 1))) = true := decide_eq_true c7
        clear c7
        obtain rfl := Option.some.inj H
        go_enter Tryd.func19, Tryd.ntmps19
        go_wp2_with (first | ((with_reducible refine gate_callee (f := 40) rfl ?_); refine goesL_ (some 6) rfl rfl Tryd.func40 (by kernel_rfl) rfl #[.string a0] rfl (by (try simp only [List.map_toArray, List.map_cons, List.map_nil]); first | done | rfl | (simp only [List.length_drop, List.length_take]; rfl)) ?_; (with_reducible refine (spec_validPoly.calls k a0 true _ A3.out).mono ?_); rintro e w' ⟨rfl, ⟨nd, rfl⟩⟩; refine ⟨_, rfl, ?_⟩) | (go_at_call 47; (with_reducible refine (spec_validBits.calls k a1 true _ A5.out).mono ?_); rintro e w' ⟨rfl, ⟨nd, rfl⟩⟩))
        go_ret
        exact ⟨by first | rfl | (simp [errW_none, errW_some] <;> rfl) | (simp [*, errW_none, errW_some] <;> rfl), by repeat (first | (with_reducible first | exact HB.out | apply below_alloc | apply pw_below_drewN | apply below_drew1) | exact HB.out)⟩
      · rw [if_neg c7] at H
        have c7b0 : decide ((a1.size : Int) < (wrap64 ((a0.size : Int) - 1))) = false := decide_eq_false c7
        clear c7
        replace H := Option.bind_eq_some_iff.mp H
        obtain ⟨t111, A80, H⟩ := H
        replace H : (some t111) = some r := H
        have A8 := Aside0.mk A80
        clear A80
        obtain rfl := Option.some.inj H
        go_enter Tryd.func19, Tryd.ntmps19
        go_wp2_with (first | ((with_reducible refine gate_callee (f := 40) rfl ?_); refine goesL_ (some 6) rfl rfl Tryd.func40 (by kernel_rfl) rfl #[.string a0] rfl (by (try simp only [List.map_toArray, List.map_cons, List.map_nil]); first | done | rfl | (simp only [List.length_drop, List.length_take]; rfl)) ?_; (with_reducible refine (spec_validPoly.calls k a0 true _ A3.out).mono ?_); rintro e w' ⟨rfl, ⟨nd, rfl⟩⟩; refine ⟨_, rfl, ?_⟩) | (go_at_call 47; (with_reducible refine (spec_validBits.calls k a1 true _ A5.out).mono ?_); rintro e w' ⟨rfl, ⟨nd, rfl⟩⟩) | ((with_reducible refine gate_callee (f := 48) rfl ?_); refine goesL_ (some 23) rfl rfl Tryd.func48 (by kernel_rfl) rfl #[.string a0, .string a1] rfl (by (try simp only [List.map_toArray, List.map_cons, List.map_nil]); first | done | rfl | (simp only [List.length_drop, List.length_take]; rfl)) ?_; (with_reducible refine (spec_remainder.calls k a0 a1 t111 _ A8.out).mono ?_); rintro e w9 ⟨rfl, hb⟩; refine ⟨_, rfl, ?_⟩; have n0_ := Aside0.mk (below_step (by repeat (first | (with_reducible first | exact HB.out | apply below_alloc | apply pw_below_drewN | apply below_drew1) | exact HB.out)) hb); clear HB; have HB := n0_; clear n0_; (try clear hb); (try clear hb2); (try clear hk); (try clear hi)))
        go_ret
        exact ⟨by first | rfl | (simp [errW_none, errW_some] <;> rfl) | (simp [*, errW_none, errW_some] <;> rfl), by repeat (first | (with_reducible first | exact HB.out | apply below_alloc | apply pw_below_drewN | apply below_drew1) | exact HB.out)⟩
    · replace c6 := Bool.eq_false_iff.mpr c6
      subst c6
      have H1 : (some (⟨#[]⟩ : ByteArray)) = some r := by rw [if_neg (show ¬ (false = true) by decide)] at H; exact H
      clear H
      have H := H1
      clear H1
      obtain rfl := Option.some.inj H
      go_enter Tryd.func19, Tryd.ntmps19
      go_wp2_with (first | ((with_reducible refine gate_callee (f := 40) rfl ?_); refine goesL_ (some 6) rfl rfl Tryd.func40 (by kernel_rfl) rfl #[.string a0] rfl (by (try simp only [List.map_toArray, List.map_cons, List.map_nil]); first | done | rfl | (simp only [List.length_drop, List.length_take]; rfl)) ?_; (with_reducible refine (spec_validPoly.calls k a0 true _ A3.out).mono ?_); rintro e w' ⟨rfl, ⟨nd, rfl⟩⟩; refine ⟨_, rfl, ?_⟩) | (go_at_call 47; (with_reducible refine (spec_validBits.calls k a1 false _ A5.out).mono ?_); rintro e w' ⟨rfl, ⟨nd, rfl⟩⟩))
      go_ret
      exact ⟨by first | rfl | (simp [errW_none, errW_some] <;> rfl) | (simp [*, errW_none, errW_some] <;> rfl), by repeat (first | (with_reducible first | exact HB.out | apply below_alloc | apply pw_below_drewN | apply below_drew1) | exact HB.out)⟩
  · replace c4 := Bool.eq_false_iff.mpr c4
    subst c4
    have H1 : (some (⟨#[]⟩ : ByteArray)) = some r := by rw [if_neg (show ¬ (false = true) by decide)] at H; exact H
    clear H
    have H := H1
    clear H1
    obtain rfl := Option.some.inj H
    go_enter Tryd.func19, Tryd.ntmps19
    go_wp2_with (first | ((with_reducible refine gate_callee (f := 40) rfl ?_); refine goesL_ (some 6) rfl rfl Tryd.func40 (by kernel_rfl) rfl #[.string a0] rfl (by (try simp only [List.map_toArray, List.map_cons, List.map_nil]); first | done | rfl | (simp only [List.length_drop, List.length_take]; rfl)) ?_; (with_reducible refine (spec_validPoly.calls k a0 false _ A3.out).mono ?_); rintro e w' ⟨rfl, ⟨nd, rfl⟩⟩; refine ⟨_, rfl, ?_⟩))
    go_ret
    exact ⟨by first | rfl | (simp [errW_none, errW_some] <;> rfl) | (simp [*, errW_none, errW_some] <;> rfl), by repeat (first | (with_reducible first | exact HB.out | apply below_alloc | apply pw_below_drewN | apply below_drew1) | exact HB.out)⟩

/-! ### impl_ValidBits: function 49 -/
def impl_ValidBits.f (a0 : ByteArray) : Option (Bool) := if (a0.size : Int) ≤ 40 then ((impl_bitsAlone.f a0).bind fun t112 => (some t112)) else (some false)
set_option maxHeartbeats 8000000 in
set_option maxRecDepth 100000 in
theorem impl_ValidBits.calls (a0 : ByteArray) (r : Bool) (w : World) (h : impl_ValidBits.f a0 = some r) :
    Calls Tryd.prog 49 #[.string a0] w fun e w' => e = .returned (.bool r) ∧ Below w.heap.size w w' := by
  have HB := Aside0.mk (Below.refl w.heap.size w)
  have H : (if (a0.size : Int) ≤ 40 then ((impl_bitsAlone.f a0).bind fun t112 => (some t112)) else (some false)) = some r := h
  clear h
  by_cases c2 : (a0.size : Int) ≤ 40
  · rw [if_pos c2] at H
    have c2b0 : decide ((a0.size : Int) ≤ 40) = true := decide_eq_true c2
    have c2b1 : decide (a0.size ≤ 40) = true := decide_eq_true (by omega)
    clear c2
    replace H := Option.bind_eq_some_iff.mp H
    obtain ⟨t112, A30, H⟩ := H
    replace H : (some t112) = some r := H
    have A3 := Aside0.mk A30
    clear A30
    obtain rfl := Option.some.inj H
    go_enter Tryd.func49, Tryd.ntmps49
    go_wp2_with (first | (go_at_call 41; (with_reducible refine (impl_bitsAlone.calls a0 t112 _ A3.out).mono ?_); rintro e w4 ⟨rfl, hb⟩; have n0_ := Aside0.mk (below_step (by repeat (first | (with_reducible first | exact HB.out | apply below_alloc | apply pw_below_drewN | apply below_drew1) | exact HB.out)) hb); clear HB; have HB := n0_; clear n0_; (try clear hb); (try clear hb2); (try clear hk); (try clear hi)))
    go_ret
    exact ⟨by first | rfl | (simp [errW_none, errW_some] <;> rfl) | (simp [*, errW_none, errW_some] <;> rfl), by repeat (first | (with_reducible first | exact HB.out | apply below_alloc | apply pw_below_drewN | apply below_drew1) | exact HB.out)⟩
  · rw [if_neg c2] at H
    have c2b0 : decide ((a0.size : Int) ≤ 40) = false := decide_eq_false c2
    have c2b1 : decide (a0.size ≤ 40) = false := decide_eq_false (by omega)
    clear c2
    obtain rfl := Option.some.inj H
    go_enter Tryd.func49, Tryd.ntmps49
    go_wp2
    go_ret
    exact ⟨by first | rfl | (simp [errW_none, errW_some] <;> rfl) | (simp [*, errW_none, errW_some] <;> rfl), by repeat (first | (with_reducible first | exact HB.out | apply below_alloc | apply pw_below_drewN | apply below_drew1) | exact HB.out)⟩

/-! ### mine: bytes.tpl -/
/-- The numbers of a string's bytes. -/
def bnum (s : ByteArray) : List Int := s.data.toList.map fun b => (b.toNat : Int)
theorem bnum_len (s : ByteArray) : (bnum s).length = s.size := by unfold bnum; rw [List.length_map]; rfl
/-- A row of bytes in a block of its own, whatever mark it bears behind its cells. -/
structure BR (w : World) (g : Nat) (l : List Int) : Prop where
  c : ∀ j, j < l.length → w.cell? ⟨g, j, none⟩ = some (.int .u8 (l.getD j 0)) ∧ w.frozen? ⟨g, j, none⟩ = false
theorem BR.set {w : World} {g : Nat} {l : List Int} (h : BR w g l) (i : Nat) (hi : i < l.length) (x : Int) : BR (w.setCell ⟨g, i, none⟩ (.int .u8 x)) g (l.set i x) := by
  refine ⟨fun j hj => ?_⟩
  rw [List.length_set] at hj
  obtain ⟨h1, h2⟩ := h.c j hj
  refine ⟨?_, (World.frozen?_setCell _ _ _ _).trans h2⟩
  by_cases e : i = j
  · subst e
    rw [World.cell?_setCell_same _ _ _ h1]
    simp [List.getD, hi]
  · rw [World.cell?_setCell_other _ _ _ _ (fun x => e (by cases x; rfl)), h1]
    simp [List.getD, List.getElem?_set, e]
theorem BR.back {w : World} {g : Nat} {l : List Int} (h : BR w g l) (o : Nat) (n c : Nat) (hn : n = l.length) : (convert 23 9 (.slice (some ⟨g, o, none⟩) (n - o) c)).run Tryd.prog w = .ok (.string (strOfNums (l.drop o))) w := by
  subst hn
  refine run_convert_bytes_arg (P := Tryd.prog) w 23 5 Tryd.underlying23 Tryd.underlying5 g o (l.length - o) c (l.drop o) (List.length_drop) (fun i hi => ?_) 9 Tryd.underlying9
  rw [(h.c (o + i) (by omega)).1]
  simp [List.getD, List.getElem?_drop]
theorem BR.new (w : World) (s : ByteArray) (n : Nat) (t lo hi : Nat) (hlo : lo = (bytesRow s n).size) : BR (w.alloc (.cells (bytesRow s n) t (lo, hi))) w.heap.size (bnum s) := by
  refine ⟨fun j hj => ?_⟩
  rw [bnum_len] at hj
  have hs : s.data.size = s.size := rfl
  have hsz : (bytesRow s n).size = s.size + (n - s.size) := by
    unfold bytesRow
    rw [Array.size_append, Array.size_map, Array.size_replicate, hs]
  refine ⟨?_, ?_⟩
  · rw [World.cell?_alloc_mark]
    unfold bytesRow
    rw [Array.getElem?_append_left (by rw [Array.size_map, hs]; exact hj), Array.getElem?_map, Array.getElem?_eq_getElem (by rw [hs]; exact hj)]
    simp only [bnum, List.getD, List.getElem?_map, Option.map_some]
    rw [List.getElem?_eq_getElem (by rw [Array.length_toList, hs]; exact hj)]
    simp
  · rw [World.frozen?_alloc_mark]
    simp
    omega
theorem BR.drew {w : World} {g : Nat} {l : List Int} (h : BR w g l) : BR w.drew g l := ⟨fun j hj => h.c j hj⟩
/-- What a conversion of a string to bytes gives, and what one of bytes to a string. -/
theorem to_bytes (w : World) (s : ByteArray) : (convert 9 23 (.string s)).run Tryd.prog w = .ok (.slice (some ⟨w.heap.size, 0, none⟩) s.size (grownCap w s.size 0 5))
      (w.drew.alloc (.cells (bytesRow s (grownCap w s.size 0 5)) 5 ((bytesRow s (grownCap w s.size 0 5)).size, (bytesRow s (grownCap w s.size 0 5)).size + 1))) :=
  run_bytes_of_string w 9 23 5 s Tryd.underlying9 Tryd.underlying23 Tryd.underlying5

/-! ### mine: pinb.tpl -/
/-- A text of which two bytes are made ones: what a conversion to bytes, two stores and a conversion back come to. -/
def PINB.f (s : ByteArray) (i k : Int) : Option ByteArray := if (0 ≤ i ∧ i < (s.size : Int)) ∧ (0 ≤ k ∧ k < (s.size : Int)) ∧ s.size ≤ 1000000000 then some (strOfNums (((bnum s).set i.toNat 49).set k.toNat 49)) else none
theorem PINB.use (s : ByteArray) (i k : Int) (r : ByteArray) (h : PINB.f s i k = some r) (w : World) :
    ∃ (cap : Nat) (C : Array Value), (0 ≤ i ∧ i < (s.size : Int)) ∧ (0 ≤ k ∧ k < (s.size : Int)) ∧
      (convert 9 23 (.string s)).run Tryd.prog w = .ok (.slice (some ⟨w.heap.size, 0, none⟩) s.size cap) (w.drew.alloc (.cells C 5 (C.size, C.size + 1))) ∧
      (∃ c, (w.alloc (.cells C 5 (C.size, C.size + 1))).cell? ⟨w.heap.size, i.toNat, none⟩ = some (.int .u8 c)) ∧ (w.alloc (.cells C 5 (C.size, C.size + 1))).frozen? ⟨w.heap.size, i.toNat, none⟩ = false ∧
      (∃ c, ((w.alloc (.cells C 5 (C.size, C.size + 1))).setCell ⟨w.heap.size, i.toNat, none⟩ (.int .u8 49)).cell? ⟨w.heap.size, k.toNat, none⟩ = some (.int .u8 c)) ∧ (w.alloc (.cells C 5 (C.size, C.size + 1))).frozen? ⟨w.heap.size, k.toNat, none⟩ = false ∧
      (convert 23 9 (.slice (some ⟨w.heap.size, 0, none⟩) s.size cap)).run Tryd.prog (((w.alloc (.cells C 5 (C.size, C.size + 1))).setCell ⟨w.heap.size, i.toNat, none⟩ (.int .u8 49)).setCell ⟨w.heap.size, k.toNat, none⟩ (.int .u8 49)).drew =
        .ok (.string r) (((w.alloc (.cells C 5 (C.size, C.size + 1))).setCell ⟨w.heap.size, i.toNat, none⟩ (.int .u8 49)).setCell ⟨w.heap.size, k.toNat, none⟩ (.int .u8 49)).drew := by
  unfold PINB.f at h
  split at h
  · rename_i hc
    obtain ⟨hi, hk, hs⟩ := hc
    cases h
    have hconv := to_bytes w s
    have B0 : BR (w.alloc (.cells (bytesRow s (grownCap w s.size 0 5)) 5 ((bytesRow s (grownCap w s.size 0 5)).size, (bytesRow s (grownCap w s.size 0 5)).size + 1))) w.heap.size (bnum s) := BR.new w s _ _ _ _ rfl
    have hl := bnum_len s
    have B1 := B0.set i.toNat (by omega) 49
    have B2 := B1.set k.toNat (by rw [List.length_set]; omega) 49
    refine ⟨_, _, hi, hk, hconv, ⟨_, (B0.c i.toNat (by omega)).1⟩, (B0.c i.toNat (by omega)).2, ⟨_, (B1.c k.toNat (by rw [List.length_set]; omega)).1⟩, (B0.c k.toNat (by omega)).2, ?_⟩
    have := BR.back B2.drew 0 s.size (grownCap w s.size 0 5) (by rw [List.length_set, List.length_set, hl])
    rw [Nat.sub_zero, List.drop_zero] at this
    exact this
  · cases h
theorem pin_back {P : Program} {ops : Array Oper} {rest : List Oper} {o : Oper} {a : Act} {Q : Exit → Act → World → Prop} {W w0 : World} {v : Value} (hgd : o.guard = none) (hrun : (execOp a.eval o).run P W = .ok (.value v) W) (hb : Below w0.heap.size w0 W)
    (h : ∀ w1, Below w0.heap.size w0 w1 → wpList P ops Q rest (a.put o.dst v) w1) : wpList P ops Q (o :: rest) a W := by
  refine wpList_plain hgd fun K hK => ?_
  unfold Oper.wp
  rw [hrun]
  exact hK _ _ (h _ hb)

end Go.Proofs.YtmkcmkkpeimldaaDoor.P
