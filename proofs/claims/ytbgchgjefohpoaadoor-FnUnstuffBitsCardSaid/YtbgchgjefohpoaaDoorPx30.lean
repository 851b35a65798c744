/- Written by a program: each theorem '.calls' says that the call of a function of the given program comes to what the Lean function beside it says; no condition but what stands in it. -/
import Derived.Test.YtbgchgjefohpoaaDoorPx0
import Derived.Test.YtbgchgjefohpoaaDoorPx1
import Derived.Test.YtbgchgjefohpoaaDoorPx3
import Derived.Test.YtbgchgjefohpoaaDoorPx5
import Derived.Test.YtbgchgjefohpoaaDoorPx7
import Derived.Test.YtbgchgjefohpoaaDoorPx29
namespace Go.Proofs.YtbgchgjefohpoaaDoor.P
open Go.RowKit Go.Proofs.YtbgchgjefohpoaaDoorW.PrintWords Go.Proofs.YtbgchgjefohpoaaDoorW.PrintLast Go.Proofs.YtbgchgjefohpoaaDoorW.PrintMore
attribute [local go_sem] max2_int min2_int max_two min_two max_three min_three max_four min_four   -- for this text's walks alone
set_option linter.unusedVariables false
set_option linter.unusedSimpArgs false

/-! ### laws_FnUnstuffBits: function 8 -/
def laws_FnUnstuffBits.j0 : Nat → ByteArray → ByteArray → Bool → ByteArray → Bool → Bool → Option (Bool)
  | 0, _, _, _, _, _, _ => none
  | k + 1, x3, x4, x5, x6, x7, x34 => if x34 = true then (if x4.toList = x6.toList then (some (x5 == x7)) else (some false)) else ((impl_StuffBits.f k x4).bind fun t258 => (if t258.toList = x3.toList then ((impl_ValidBits.f x4).bind fun t259 => (some t259)) else (some false)))
def laws_FnUnstuffBits.f (k : Nat) (l0 : List Int) : Option (Bool) := if (l0.length : Int) > 1048576 then (some true) else ((spec_DrawUnstuffBits.f k l0).bind fun t253 => ((impl_UnstuffBits.f k t253).bind fun bt254 => ((spec_UnstuffBits.f k t253).bind fun bt256 => (if bt254.1.toList = bt256.1.toList then (if (bt254.2 != bt256.2) = true then (laws_FnUnstuffBits.j0 k t253 bt254.1 bt254.2 bt256.1 bt256.2 true) else (laws_FnUnstuffBits.j0 k t253 bt254.1 bt254.2 bt256.1 bt256.2 (!bt254.2))) else (laws_FnUnstuffBits.j0 k t253 bt254.1 bt254.2 bt256.1 bt256.2 true)))))
theorem laws_FnUnstuffBits.mono_l : ∀ k, (∀ y0 y1 y2 y3 y4 y5, LeO (laws_FnUnstuffBits.j0 k y0 y1 y2 y3 y4 y5) (laws_FnUnstuffBits.j0 (k + 1) y0 y1 y2 y3 y4 y5))
  | 0 => fun _ _ _ _ _ _ r h => by simp [laws_FnUnstuffBits.j0] at h
  | k + 1 => by
    have ih0 := laws_FnUnstuffBits.mono_l k
    · intro y0 y1 y2 y3 y4 y5
      unfold laws_FnUnstuffBits.j0
      repeat' first
      | (with_reducible exact ih0 _ _ _ _ _ _)
      | (with_reducible exact impl_StuffBits.mono _ _)
      | (with_reducible exact impl_UnstuffBits.mono _ _)
      | (with_reducible exact spec_DrawUnstuffBits.mono _ _)
      | (with_reducible exact spec_UnstuffBits.mono _ _)
      | (with_reducible exact LeO.refl _)
      | (with_reducible exact LeO.none _)
      | (with_reducible refine LeO.ite ?_ ?_)
      | (with_reducible refine LeO.bind ?_ (fun _ => ?_))
      | exact ih0 _ _ _ _ _ _
      | exact impl_StuffBits.mono _ _
      | exact impl_UnstuffBits.mono _ _
      | exact spec_DrawUnstuffBits.mono _ _
      | exact spec_UnstuffBits.mono _ _
      | exact LeO.none _
      | refine LeO.ite ?_ ?_
      | refine LeO.bind ?_ (fun _ => ?_)
theorem laws_FnUnstuffBits.mono : ∀ a0 k, LeO (laws_FnUnstuffBits.f k a0) (laws_FnUnstuffBits.f (k + 1) a0) := by
  intro a0 k
  have ih0 := laws_FnUnstuffBits.mono_l k
  unfold laws_FnUnstuffBits.f
  repeat' first
      | (with_reducible exact ih0 _ _ _ _ _ _)
      | (with_reducible exact impl_StuffBits.mono _ _)
      | (with_reducible exact impl_UnstuffBits.mono _ _)
      | (with_reducible exact spec_DrawUnstuffBits.mono _ _)
      | (with_reducible exact spec_UnstuffBits.mono _ _)
      | (with_reducible exact LeO.refl _)
      | (with_reducible exact LeO.none _)
      | (with_reducible refine LeO.ite ?_ ?_)
      | (with_reducible refine LeO.bind ?_ (fun _ => ?_))
      | exact ih0 _ _ _ _ _ _
      | exact impl_StuffBits.mono _ _
      | exact impl_UnstuffBits.mono _ _
      | exact spec_DrawUnstuffBits.mono _ _
      | exact spec_UnstuffBits.mono _ _
      | exact LeO.none _
      | refine LeO.ite ?_ ?_
      | refine LeO.bind ?_ (fun _ => ?_)
set_option maxHeartbeats 8000000 in
set_option maxRecDepth 100000 in
theorem laws_FnUnstuffBits.calls (k : Nat) (A0 : Option Addr) (c0 : Nat) (l0 : List Int) (r : Bool) (w : World) (hr0 : Kd.C (Kd.int .u8) w A0 l0.length l0) (hc0 : l0.length ≤ c0) (h : laws_FnUnstuffBits.f k l0 = some r) :
    Calls Tryd.prog 8 #[.slice A0 l0.length c0] w fun e w' => e = .returned (.bool r) ∧ Below w.heap.size w w' := by
  have HR0 := Aside0.mk hr0
  have HC0 := Aside0.mk hc0
  clear hr0 hc0
  have HB := Aside0.mk (Below.refl w.heap.size w)
  have H : (if (l0.length : Int) > 1048576 then (some true) else ((spec_DrawUnstuffBits.f k l0).bind fun t253 => ((impl_UnstuffBits.f k t253).bind fun bt254 => ((spec_UnstuffBits.f k t253).bind fun bt256 => (if bt254.1.toList = bt256.1.toList then (if (bt254.2 != bt256.2) = true then (laws_FnUnstuffBits.j0 k t253 bt254.1 bt254.2 bt256.1 bt256.2 true) else (laws_FnUnstuffBits.j0 k t253 bt254.1 bt254.2 bt256.1 bt256.2 (!bt254.2))) else (laws_FnUnstuffBits.j0 k t253 bt254.1 bt254.2 bt256.1 bt256.2 true)))))) = some r := h
  clear h
  by_cases c2 : (l0.length : Int) > 1048576
  · rw [if_pos c2] at H
    have c2b0 : decide (1048576 < (l0.length : Int)) = true := decide_eq_true c2
    have c2b1 : decide (1048576 < l0.length) = true := decide_eq_true (by omega)
    clear c2
    obtain rfl := Option.some.inj H
    go_enter Tryd.func8, Tryd.ntmps8
    go_wp2
    go_ret
    exact ⟨by first | rfl | (simp [errW_none, errW_some] <;> rfl) | (simp [*, errW_none, errW_some] <;> rfl), by repeat (first | (with_reducible first | exact HB.out | apply below_alloc | apply pw_below_drewN | apply below_drew1) | exact HB.out)⟩
  · rw [if_neg c2] at H
    have c2b0 : decide (1048576 < (l0.length : Int)) = false := decide_eq_false c2
    have c2b1 : decide (1048576 < l0.length) = false := decide_eq_false (by omega)
    clear c2
    replace H := Option.bind_eq_some_iff.mp H
    obtain ⟨t253, A30, H⟩ := H
    replace H : ((impl_UnstuffBits.f k t253).bind fun bt254 => ((spec_UnstuffBits.f k t253).bind fun bt256 => (if bt254.1.toList = bt256.1.toList then (if (bt254.2 != bt256.2) = true then (laws_FnUnstuffBits.j0 k t253 bt254.1 bt254.2 bt256.1 bt256.2 true) else (laws_FnUnstuffBits.j0 k t253 bt254.1 bt254.2 bt256.1 bt256.2 (!bt254.2))) else (laws_FnUnstuffBits.j0 k t253 bt254.1 bt254.2 bt256.1 bt256.2 true)))) = some r := H
    have A3 := Aside0.mk A30
    clear A30
    replace H := Option.bind_eq_some_iff.mp H
    obtain ⟨⟨t254, t255⟩, A40, H⟩ := H
    replace H : ((spec_UnstuffBits.f k t253).bind fun bt256 => (if t254.toList = bt256.1.toList then (if (t255 != bt256.2) = true then (laws_FnUnstuffBits.j0 k t253 t254 t255 bt256.1 bt256.2 true) else (laws_FnUnstuffBits.j0 k t253 t254 t255 bt256.1 bt256.2 (!t255))) else (laws_FnUnstuffBits.j0 k t253 t254 t255 bt256.1 bt256.2 true))) = some r := H
    have A4 := Aside0.mk A40
    clear A40
    replace H := Option.bind_eq_some_iff.mp H
    obtain ⟨⟨t256, t257⟩, A50, H⟩ := H
    replace H : (if t254.toList = t256.toList then (if (t255 != t257) = true then (laws_FnUnstuffBits.j0 k t253 t254 t255 t256 t257 true) else (laws_FnUnstuffBits.j0 k t253 t254 t255 t256 t257 (!t255))) else (laws_FnUnstuffBits.j0 k t253 t254 t255 t256 t257 true)) = some r := H
    have A5 := Aside0.mk A50
    clear A50
    have HC6 := Aside0.mk H
    clear H
    go_enter Tryd.func8, Tryd.ntmps8
    go_upto_region 6 with (first | ((with_reducible refine gate_callee (f := 21) rfl ?_); refine goesL_ (some 12) rfl rfl Tryd.func21 (by kernel_rfl) rfl #[.slice A0 l0.length c0] rfl (by (try simp only [List.map_toArray, List.map_cons, List.map_nil]); first | done | rfl | (simp only [List.length_drop, List.length_take]; rfl)) ?_; (with_reducible refine (spec_DrawUnstuffBits.calls k _ _ l0 t253 _ ?side1 ?side2 A3.out).mono ?_); (case side1 => repeat (first | exact HR0.out | (with_reducible refine Kd.C_alloc ?_ _) | (with_reducible refine Kd.C_drewN ?_ _) | (with_reducible refine Kd.C_drew ?_))); (case side2 => exact HC0.out); rintro e w7 ⟨rfl, hb⟩; refine ⟨_, rfl, ?_⟩; have n0_ := Aside0.mk (below_step (by repeat (first | (with_reducible first | exact HB.out | apply below_alloc | apply pw_below_drewN | apply below_drew1) | exact HB.out)) hb); clear HB; have HB := n0_; clear n0_; (try clear hb); (try clear hb2); (try clear hk); (try clear hi)) | ((with_reducible refine gate_callee (f := 19) rfl ?_); refine goesL_ (some 15) rfl rfl Tryd.func19 (by kernel_rfl) rfl #[.string t253] rfl (by (try simp only [List.map_toArray, List.map_cons, List.map_nil]); first | done | rfl | (simp only [List.length_drop, List.length_take]; rfl)) ?_; (with_reducible refine (impl_UnstuffBits.calls k t253 t254 t255 _ A4.out).mono ?_); rintro e w8 ⟨rfl, hb⟩; refine ⟨_, rfl, ?_⟩; have n0_ := Aside0.mk (below_step (by repeat (first | (with_reducible first | exact HB.out | apply below_alloc | apply pw_below_drewN | apply below_drew1) | exact HB.out)) hb); clear HB; have HB := n0_; clear n0_; (try clear hb); (try clear hb2); (try clear hk); (try clear hi)) | ((with_reducible refine gate_callee (f := 20) rfl ?_); refine goesL_ (some 20) rfl rfl Tryd.func20 (by kernel_rfl) rfl #[.string t253] rfl (by (try simp only [List.map_toArray, List.map_cons, List.map_nil]); first | done | rfl | (simp only [List.length_drop, List.length_take]; rfl)) ?_; (with_reducible refine (spec_UnstuffBits.calls k t253 t256 t257 _ A5.out).mono ?_); rintro e w' ⟨rfl, ⟨nd, rfl⟩⟩; refine ⟨_, rfl, ?_⟩))
    (try simp only [Act.put, List.setIfInBounds_toArray, List.set_cons_zero, List.set_cons_succ])
    go_cut [34] (fun v34 wc => ∃ (kq : Nat) (x34_5 : Bool), v34 = .bool x34_5 ∧ Aside0 (laws_FnUnstuffBits.j0 kq t253 t254 t255 t256 t257 x34_5 = some r) ∧ Aside0 (kq ≤ k) ∧ Aside0 (Below w.heap.size w wc))
    case first =>
      have H := HC6.out
      clear HC6
      by_cases c9 : t254.toList = t256.toList
      · rw [if_pos c9] at H
        have c9b0 : (t254.toList == t256.toList) = true := beq_iff_eq.mpr c9
        have c9b1 : (t254.toList != t256.toList) = false := bne_eq_false_iff_eq.mpr c9
        clear c9
        (first | rw [c9b0] | (simp only [i64_w, i32_w]; rw [c9b0]) | skip)
        by_cases c10 : (t255 != t257) = true
        · rw [if_pos c10] at H
          have c10b0 : (t255 != t257) = true := c10
          (try (have c10b1 : decide (t255 = t257) = false := by simpa using c10))
          (try (have c10b2 : (t255 == t257) = false := by simpa using c10))
          (try (have c10b3 : ¬ (t255 = t257) := by simpa using c10))
          clear c10
          have H' := Aside0.mk H
          clear H
          go_wp2
          go_meet
          case rel => exact ⟨_, (true), (by first | rfl | (simp; done) | (simp [*]; done) | exact (fun l : List UInt8 => by cases l <;> rfl : ∀ l : List UInt8, Value.bool (!l.isEmpty) = Value.bool (l != [])) _), H', ⟨by first | omega | exact Nat.le_refl _⟩, ⟨by repeat (first | (with_reducible first | exact HB.out | apply below_alloc | apply pw_below_drewN | apply below_drew1) | exact HB.out)⟩⟩
        · rw [if_neg c10] at H
          have c10b0 : (t255 != t257) = false := by simpa using c10
          (try (have c10b1 : decide (t255 = t257) = true := by simpa using c10))
          (try (have c10b2 : (t255 == t257) = true := by simpa using c10))
          clear c10
          have H' := Aside0.mk H
          clear H
          go_wp2
          go_meet
          case rel => exact ⟨_, (!t255), (by first | rfl | (simp; done) | (simp [*]; done) | exact (fun l : List UInt8 => by cases l <;> rfl : ∀ l : List UInt8, Value.bool (!l.isEmpty) = Value.bool (l != [])) _), H', ⟨by first | omega | exact Nat.le_refl _⟩, ⟨by repeat (first | (with_reducible first | exact HB.out | apply below_alloc | apply pw_below_drewN | apply below_drew1) | exact HB.out)⟩⟩
      · rw [if_neg c9] at H
        have c9b0 : (t254.toList == t256.toList) = false := beq_eq_false_iff_ne.mpr c9
        have c9b1 : (t254.toList != t256.toList) = true := bne_iff_ne.mpr c9
        (first | rw [c9b0] | (simp only [i64_w, i32_w]; rw [c9b0]) | skip)
        have H' := Aside0.mk H
        clear H
        go_wp2
        go_meet
        case rel => exact ⟨_, (true), (by first | rfl | (simp; done) | (simp [*]; done) | exact (fun l : List UInt8 => by cases l <;> rfl : ∀ l : List UInt8, Value.bool (!l.isEmpty) = Value.bool (l != [])) _), H', ⟨by first | omega | exact Nat.le_refl _⟩, ⟨by repeat (first | (with_reducible first | exact HB.out | apply below_alloc | apply pw_below_drewN | apply below_drew1) | exact HB.out)⟩⟩
    case rest =>
      clear HC6
      try clear c1
      try clear c2
      try clear c2b0
      try clear c2b1
      try clear p2
      try clear c8
      try clear c9
      try clear c9b0
      try clear c9b1
      try clear c10
      try clear c10b0
      try clear c10b1
      try clear c10b2
      obtain ⟨kq, x34_5, rfl, HA, HJ5, HB⟩ := hcut
      cases kq with
      | zero => exact absurd HA.out (by simp [laws_FnUnstuffBits.j0])
      | succ kj5 =>
        have H := HA.out
        clear HA
        simp only [laws_FnUnstuffBits.j0] at H
        by_cases c11 : x34_5 = true
        · subst c11
          have H1 : (if t254.toList = t256.toList then (some (t255 == t257)) else (some false)) = some r := by rw [if_pos rfl] at H; exact H
          clear H
          have H := H1
          clear H1
          by_cases c12 : t254.toList = t256.toList
          · rw [if_pos c12] at H
            have c12b0 : (t254.toList == t256.toList) = true := beq_iff_eq.mpr c12
            have c12b1 : (t254.toList != t256.toList) = false := bne_eq_false_iff_eq.mpr c12
            clear c12
            obtain rfl := Option.some.inj H
            go_wp2
            go_ret
            exact ⟨by first | rfl | (simp [errW_none, errW_some] <;> rfl) | (simp [*, errW_none, errW_some] <;> rfl), by repeat (first | (with_reducible first | exact HB.out | apply below_alloc | apply pw_below_drewN | apply below_drew1) | exact HB.out)⟩
          · rw [if_neg c12] at H
            have c12b0 : (t254.toList == t256.toList) = false := beq_eq_false_iff_ne.mpr c12
            have c12b1 : (t254.toList != t256.toList) = true := bne_iff_ne.mpr c12
            obtain rfl := Option.some.inj H
            go_wp2
            go_ret
            exact ⟨by first | rfl | (simp [errW_none, errW_some] <;> rfl) | (simp [*, errW_none, errW_some] <;> rfl), by repeat (first | (with_reducible first | exact HB.out | apply below_alloc | apply pw_below_drewN | apply below_drew1) | exact HB.out)⟩
        · replace c11 := Bool.eq_false_iff.mpr c11
          subst c11
          have H1 : ((impl_StuffBits.f kj5 t254).bind fun t258 => (if t258.toList = t253.toList then ((impl_ValidBits.f t254).bind fun t259 => (some t259)) else (some false))) = some r := by rw [if_neg (show ¬ (false = true) by decide)] at H; exact H
          clear H
          have H := H1
          clear H1
          replace H := Option.bind_eq_some_iff.mp H
          obtain ⟨t258, A130, H⟩ := H
          replace H : (if t258.toList = t253.toList then ((impl_ValidBits.f t254).bind fun t259 => (some t259)) else (some false)) = some r := H
          have A13 := Aside0.mk A130
          clear A130
          by_cases c14 : t258.toList = t253.toList
          · rw [if_pos c14] at H
            have c14b0 : (t258.toList == t253.toList) = true := beq_iff_eq.mpr c14
            have c14b1 : (t258.toList != t253.toList) = false := bne_eq_false_iff_eq.mpr c14
            clear c14
            replace H := Option.bind_eq_some_iff.mp H
            obtain ⟨t259, A150, H⟩ := H
            replace H : (some t259) = some r := H
            have A15 := Aside0.mk A150
            clear A150
            obtain rfl := Option.some.inj H
            go_wp2_with (first | ((with_reducible refine gate_callee (f := 17) rfl ?_); refine goesL_ (some 44) rfl rfl Tryd.func17 (by kernel_rfl) rfl #[.string t254] rfl (by (try simp only [List.map_toArray, List.map_cons, List.map_nil]); first | done | rfl | (simp only [List.length_drop, List.length_take]; rfl)) ?_; (with_reducible refine (impl_StuffBits.calls kj5 t254 t258 _ A13.out).mono ?_); rintro e w16 ⟨rfl, hb⟩; refine ⟨_, rfl, ?_⟩; have n0_ := Aside0.mk (below_step (by repeat (first | (with_reducible first | exact HB.out | apply below_alloc | apply pw_below_drewN | apply below_drew1) | exact HB.out)) hb); clear HB; have HB := n0_; clear n0_; (try clear hb); (try clear hb2); (try clear hk); (try clear hi)) | (go_at_call 14; (with_reducible refine (impl_ValidBits.calls t254 t259 _ A15.out).mono ?_); rintro e w17 ⟨rfl, hb⟩; have n0_ := Aside0.mk (below_step (by repeat (first | (with_reducible first | exact HB.out | apply below_alloc | apply pw_below_drewN | apply below_drew1) | exact HB.out)) hb); clear HB; have HB := n0_; clear n0_; (try clear hb); (try clear hb2); (try clear hk); (try clear hi)))
            go_ret
            exact ⟨by first | rfl | (simp [errW_none, errW_some] <;> rfl) | (simp [*, errW_none, errW_some] <;> rfl), by repeat (first | (with_reducible first | exact HB.out | apply below_alloc | apply pw_below_drewN | apply below_drew1) | exact HB.out)⟩
          · rw [if_neg c14] at H
            have c14b0 : (t258.toList == t253.toList) = false := beq_eq_false_iff_ne.mpr c14
            have c14b1 : (t258.toList != t253.toList) = true := bne_iff_ne.mpr c14
            obtain rfl := Option.some.inj H
            go_wp2_with (first | ((with_reducible refine gate_callee (f := 17) rfl ?_); refine goesL_ (some 44) rfl rfl Tryd.func17 (by kernel_rfl) rfl #[.string t254] rfl (by (try simp only [List.map_toArray, List.map_cons, List.map_nil]); first | done | rfl | (simp only [List.length_drop, List.length_take]; rfl)) ?_; (with_reducible refine (impl_StuffBits.calls kj5 t254 t258 _ A13.out).mono ?_); rintro e w18 ⟨rfl, hb⟩; refine ⟨_, rfl, ?_⟩; have n0_ := Aside0.mk (below_step (by repeat (first | (with_reducible first | exact HB.out | apply below_alloc | apply pw_below_drewN | apply below_drew1) | exact HB.out)) hb); clear HB; have HB := n0_; clear n0_; (try clear hb); (try clear hb2); (try clear hk); (try clear hi)))
            go_ret
            exact ⟨by first | rfl | (simp [errW_none, errW_some] <;> rfl) | (simp [*, errW_none, errW_some] <;> rfl), by repeat (first | (with_reducible first | exact HB.out | apply below_alloc | apply pw_below_drewN | apply below_drew1) | exact HB.out)⟩

/-- THE ONE PURE STATEMENT of laws_FnUnstuffBits: yours. -/
def laws_FnUnstuffBits.Pure : Prop := ∀ (l0 : List Int), l0.length ≤ maxLen → l0.length * 1 ≤ 140737488351232 → (∀ x ∈ l0, (Lit.int .u8 x).wf = true) → ∃ k, laws_FnUnstuffBits.f k l0 = some true
theorem laws_FnUnstuffBits.walk (P : laws_FnUnstuffBits.Pure) (a0 : Option Addr) (len0 cap0 : Nat) (z0 : List Int) (w : World) (w0 : (a0 = none ∧ len0 = 0 ∧ cap0 = 0 ∧ z0 = []) ∨ ∃ x, a0 = some x ∧ len0 ≤ cap0 ∧ cap0 ≤ maxLen ∧ z0.length = cap0 ∧ (∀ i, i < z0.length → w.cell? (x.add i) = some (.int .u8 (z0.getD i 0))) ∧ ∀ n ∈ z0, (Lit.int .u8 n).wf = true) (y0 : len0 * 1 ≤ 140737488351232) :
    Calls Tryd.prog 8 #[.slice a0 len0 cap0] w fun e w' => e = .returned (.bool true) ∧ Below w.heap.size w w' := by
  obtain ⟨l0, rfl, hr0, hm0, hw0, hc0⟩ := ReadsInt.ofRowC w0
  obtain ⟨k, h⟩ := P l0 hm0 y0 hw0
  refine (laws_FnUnstuffBits.calls k _ _ l0 true w (Kd.C_of_reads (d := (0 : Int)) (h1 := fun _ => rfl) hr0) hc0 h).mono ?_
  rintro e w' ⟨rfl, hd⟩
  exact ⟨rfl, hd⟩

end Go.Proofs.YtbgchgjefohpoaaDoor.P
