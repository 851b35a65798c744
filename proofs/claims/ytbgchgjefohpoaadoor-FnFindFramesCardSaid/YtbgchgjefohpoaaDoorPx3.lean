/- Written by a program: each theorem '.calls' says that the call of a function of the given program comes to what the Lean function beside it says; no condition but what stands in it. -/
import Derived.Test.YtbgchgjefohpoaaDoorPx0
import Derived.Test.YtbgchgjefohpoaaDoorPx1
import Derived.Test.YtbgchgjefohpoaaDoorPx2
namespace Go.Proofs.YtbgchgjefohpoaaDoor.P
open Go.RowKit Go.Proofs.YtbgchgjefohpoaaDoorW.PrintWords Go.Proofs.YtbgchgjefohpoaaDoorW.PrintLast Go.Proofs.YtbgchgjefohpoaaDoorW.PrintMore
attribute [local go_sem] max2_int min2_int max_two min_two max_three min_three max_four min_four   -- for this text's walks alone
set_option linter.unusedVariables false
set_option linter.unusedSimpArgs false

/-! ### spec_StuffBits: function 16 -/
def spec_StuffBits.f (k : Nat) (a0 : ByteArray) : Option (ByteArray) := (spec_validBits.f k a0).bind fun t106 => (if t106 = true then ((spec_stuff.f k a0).bind fun t107 => (some t107)) else (some (⟨#[]⟩ : ByteArray)))
theorem spec_StuffBits.mono : ∀ a0 k, LeO (spec_StuffBits.f k a0) (spec_StuffBits.f (k + 1) a0) := by
  intro a0 k
  unfold spec_StuffBits.f
  repeat' first
      | (with_reducible exact spec_stuff.mono _ _)
      | (with_reducible exact spec_validBits.mono _ _)
      | (with_reducible exact LeO.refl _)
      | (with_reducible exact LeO.none _)
      | (with_reducible refine LeO.ite ?_ ?_)
      | (with_reducible refine LeO.bind ?_ (fun _ => ?_))
      | exact spec_stuff.mono _ _
      | exact spec_validBits.mono _ _
      | exact LeO.none _
      | refine LeO.ite ?_ ?_
      | refine LeO.bind ?_ (fun _ => ?_)
set_option maxHeartbeats 8000000 in
set_option maxRecDepth 100000 in
theorem spec_StuffBits.calls (k : Nat) (a0 : ByteArray) (r : ByteArray) (w : World) (h : spec_StuffBits.f k a0 = some r) :
    Calls Tryd.prog 16 #[.string a0] w fun e w' => e = .returned (.string r) ∧ Drawn0 w w' := by
  have H : ((spec_validBits.f k a0).bind fun t106 => (if t106 = true then ((spec_stuff.f k a0).bind fun t107 => (some t107)) else (some (⟨#[]⟩ : ByteArray)))) = some r := h
  clear h
  replace H := Option.bind_eq_some_iff.mp H
  obtain ⟨t106, A20, H⟩ := H
  replace H : (if t106 = true then ((spec_stuff.f k a0).bind fun t107 => (some t107)) else (some (⟨#[]⟩ : ByteArray))) = some r := H
  have A2 := Aside0.mk A20
  clear A20
  by_cases c3 : t106 = true
  · subst c3
    have H1 : ((spec_stuff.f k a0).bind fun t107 => (some t107)) = some r := by rw [if_pos rfl] at H; exact H
    clear H
    have H := H1
    clear H1
    replace H := Option.bind_eq_some_iff.mp H
    obtain ⟨t107, A40, H⟩ := H
    replace H : (some t107) = some r := H
    have A4 := Aside0.mk A40
    clear A40
    obtain rfl := Option.some.inj H
    go_enter Tryd.func16, Tryd.ntmps16
    go_wp2_with (first | ((with_reducible refine gate_callee (f := 34) rfl ?_); refine goesL_ (some 4) rfl rfl Tryd.func34 (by kernel_rfl) rfl #[.string a0] rfl (by (try simp only [List.map_toArray, List.map_cons, List.map_nil]); first | done | rfl | (simp only [List.length_drop, List.length_take]; rfl)) ?_; (with_reducible refine (spec_validBits.calls k a0 true _ A2.out).mono ?_); rintro e w' ⟨rfl, ⟨nd, rfl⟩⟩; refine ⟨_, rfl, ?_⟩) | ((with_reducible refine gate_callee (f := 38) rfl ?_); refine goesL_ (some 7) rfl rfl Tryd.func38 (by kernel_rfl) rfl #[.string a0] rfl (by (try simp only [List.map_toArray, List.map_cons, List.map_nil]); first | done | rfl | (simp only [List.length_drop, List.length_take]; rfl)) ?_; (with_reducible refine (spec_stuff.calls k a0 t107 _ A4.out).mono ?_); rintro e w' ⟨rfl, ⟨nd, rfl⟩⟩; refine ⟨_, rfl, ?_⟩))
    go_ret
    exact ⟨by first | rfl | (simp; done) | (simp [*]; done) | exact (fun l : List UInt8 => by cases l <;> rfl : ∀ l : List UInt8, Value.bool (!l.isEmpty) = Value.bool (l != [])) _, by repeat (first | exact Drawn0.refl _ | apply Drawn0.step)⟩
  · replace c3 := Bool.eq_false_iff.mpr c3
    subst c3
    have H1 : (some (⟨#[]⟩ : ByteArray)) = some r := by rw [if_neg (show ¬ (false = true) by decide)] at H; exact H
    clear H
    have H := H1
    clear H1
    obtain rfl := Option.some.inj H
    go_enter Tryd.func16, Tryd.ntmps16
    go_wp2_with (first | ((with_reducible refine gate_callee (f := 34) rfl ?_); refine goesL_ (some 4) rfl rfl Tryd.func34 (by kernel_rfl) rfl #[.string a0] rfl (by (try simp only [List.map_toArray, List.map_cons, List.map_nil]); first | done | rfl | (simp only [List.length_drop, List.length_take]; rfl)) ?_; (with_reducible refine (spec_validBits.calls k a0 false _ A2.out).mono ?_); rintro e w' ⟨rfl, ⟨nd, rfl⟩⟩; refine ⟨_, rfl, ?_⟩))
    go_ret
    exact ⟨by first | rfl | (simp; done) | (simp [*]; done) | exact (fun l : List UInt8 => by cases l <;> rfl : ∀ l : List UInt8, Value.bool (!l.isEmpty) = Value.bool (l != [])) _, by repeat (first | exact Drawn0.refl _ | apply Drawn0.step)⟩

/-! ### impl_stuffed: function 39 -/
def impl_stuffed.l0 : Nat → ByteArray → ByteArray → Int → Int → Int → Option (ByteArray)
  | 0, _, _, _, _, _ => none
  | k + 1, x0, x3, x4, x7, x8 => if x8 < x7 then (if 0 ≤ x8 then (if x8 ≤ (wrap64 (x8 + 1)) then (if (wrap64 (x8 + 1)) ≤ (x0.size : Int) then (if x3.size + (x0.extract (x8 : Int).toNat ((wrap64 (x8 + 1)) : Int).toNat).size ≤ 9223372036854775807 then (if x8 < (x0.size : Int) then (if (wrap64 ((wrap64 (x4 + 1)) * (((bt x0 x8) - 48) % 256))) = 5 then (if (x3 ++ (x0.extract (x8 : Int).toNat ((wrap64 (x8 + 1)) : Int).toNat)).size + 1 ≤ 9223372036854775807 then (impl_stuffed.l0 k x0 ((x3 ++ (x0.extract (x8 : Int).toNat ((wrap64 (x8 + 1)) : Int).toNat)) ++ (⟨#[48]⟩ : ByteArray)) 0 x7 (wrap64 (x8 + 1))) else (none)) else (impl_stuffed.l0 k x0 (x3 ++ (x0.extract (x8 : Int).toNat ((wrap64 (x8 + 1)) : Int).toNat)) (wrap64 ((wrap64 (x4 + 1)) * (((bt x0 x8) - 48) % 256))) x7 (wrap64 (x8 + 1)))) else (none)) else (none)) else (none)) else (none)) else (none)) else (some x3)
def impl_stuffed.f (k : Nat) (a0 : ByteArray) : Option (ByteArray) := impl_stuffed.l0 k a0 (⟨#[]⟩ : ByteArray) 0 (a0.size : Int) 0
theorem impl_stuffed.mono_l : ∀ k, (∀ y0 y1 y2 y3 y4, LeO (impl_stuffed.l0 k y0 y1 y2 y3 y4) (impl_stuffed.l0 (k + 1) y0 y1 y2 y3 y4))
  | 0 => fun _ _ _ _ _ r h => by simp [impl_stuffed.l0] at h
  | k + 1 => by
    have ih0 := impl_stuffed.mono_l k
    · intro y0 y1 y2 y3 y4
      unfold impl_stuffed.l0
      repeat' first
      | (with_reducible exact ih0 _ _ _ _ _)
      | (with_reducible exact LeO.refl _)
      | (with_reducible exact LeO.none _)
      | (with_reducible refine LeO.ite ?_ ?_)
      | (with_reducible refine LeO.bind ?_ (fun _ => ?_))
      | exact ih0 _ _ _ _ _
      | exact LeO.none _
      | refine LeO.ite ?_ ?_
      | refine LeO.bind ?_ (fun _ => ?_)
theorem impl_stuffed.mono : ∀ a0 k, LeO (impl_stuffed.f k a0) (impl_stuffed.f (k + 1) a0) := by
  intro a0 k
  have ih0 := impl_stuffed.mono_l k
  unfold impl_stuffed.f
  repeat' first
      | (with_reducible exact ih0 _ _ _ _ _)
      | (with_reducible exact LeO.refl _)
      | (with_reducible exact LeO.none _)
      | (with_reducible refine LeO.ite ?_ ?_)
      | (with_reducible refine LeO.bind ?_ (fun _ => ?_))
      | exact ih0 _ _ _ _ _
      | exact LeO.none _
      | refine LeO.ite ?_ ?_
      | refine LeO.bind ?_ (fun _ => ?_)
set_option maxHeartbeats 8000000 in
set_option maxRecDepth 100000 in
theorem impl_stuffed.calls (k : Nat) (a0 : ByteArray) (r : ByteArray) (w : World) (h : impl_stuffed.f k a0 = some r) :
    Calls Tryd.prog 39 #[.string a0] w fun e w' => e = .returned (.string r) ∧ Drawn0 w w' := by
  have H : (impl_stuffed.l0 k a0 (⟨#[]⟩ : ByteArray) 0 (a0.size : Int) 0) = some r := h
  clear h
  have H' := Aside0.mk H
  clear H
  go_enter Tryd.func39, Tryd.ntmps39
  go_wp2
  go_loopg [3, 4, 8] k (fun kq v3 v4 v8 w' => ∃ (x3_1 : ByteArray) (x4_1 : Int) (x8_1 : Int), v3 = .string x3_1 ∧ v4 = .int .i64 x4_1 ∧ v8 = .int .i64 x8_1 ∧ Aside0 (impl_stuffed.l0 kq a0 x3_1 x4_1 (a0.size : Int) x8_1 = some r) ∧ Aside0 (kq ≤ k) ∧ Drawn0 w w')
  case atStart => exact ⟨((⟨#[]⟩ : ByteArray)), (0), (0), (by first | rfl | (simp; done) | (simp [*]; done) | exact (fun l : List UInt8 => by cases l <;> rfl : ∀ l : List UInt8, Value.bool (!l.isEmpty) = Value.bool (l != [])) _), (by first | rfl | (simp; done) | (simp [*]; done) | exact (fun l : List UInt8 => by cases l <;> rfl : ∀ l : List UInt8, Value.bool (!l.isEmpty) = Value.bool (l != [])) _), (by first | rfl | (simp; done) | (simp [*]; done) | exact (fun l : List UInt8 => by cases l <;> rfl : ∀ l : List UInt8, Value.bool (!l.isEmpty) = Value.bool (l != [])) _), H', ⟨Nat.le_refl _⟩, by repeat (first | exact Drawn0.refl _ | apply Drawn0.step)⟩
  case round =>
    clear H'
    obtain ⟨x3_1, x4_1, x8_1, rfl, rfl, rfl, HA, HK1, ⟨m1, rfl⟩⟩ := hrel
    cases gk with
    | zero => exact absurd HA.out (by simp [impl_stuffed.l0])
    | succ k1 =>
      have H := HA.out
      clear HA
      simp only [impl_stuffed.l0] at H
      by_cases c2 : x8_1 < (a0.size : Int)
      · rw [if_pos c2] at H
        have c2b0 : decide (x8_1 < (a0.size : Int)) = true := decide_eq_true c2
        clear c2
        by_cases c3 : 0 ≤ x8_1
        · rw [if_pos c3] at H
          have c3b0 := eq_true c3
          have c3b1 : decide (0 ≤ x8_1) = true := decide_eq_true c3
          clear c3
          by_cases c4 : x8_1 ≤ (wrap64 (x8_1 + 1))
          · rw [if_pos c4] at H
            have c4b0 := eq_true c4
            have c4b1 : decide (x8_1 ≤ (wrap64 (x8_1 + 1))) = true := decide_eq_true c4
            by_cases c5 : (wrap64 (x8_1 + 1)) ≤ (a0.size : Int)
            · rw [if_pos c5] at H
              have c5b0 := eq_true c5
              have c5b1 : decide ((wrap64 (x8_1 + 1)) ≤ (a0.size : Int)) = true := decide_eq_true c5
              by_cases c6 : x3_1.size + (a0.extract (x8_1 : Int).toNat ((wrap64 (x8_1 + 1)) : Int).toNat).size ≤ 9223372036854775807
              · rw [if_pos c6] at H
                have c6b0 := eq_true c6
                have c6b1 : decide (x3_1.size + (a0.extract (x8_1 : Int).toNat ((wrap64 (x8_1 + 1)) : Int).toNat).size ≤ 9223372036854775807) = true := decide_eq_true c6
                try have c6b2 : (9223372036854775807 < x3_1.size + (a0.extract (x8_1 : Int).toNat ((wrap64 (x8_1 + 1)) : Int).toNat).size) = False := eq_false (Nat.not_lt.2 c6)
                try (have c6b3 := c6b2; (try simp only [ByteArray.size_append] at c6b3); simp only [ByteArray.size_extract] at c6b3; (repeat rw [Nat.min_eq_left (by first | omega | (simp only [eq_self_iff_true, eq_iff_iff, iff_true] at *; omega))] at c6b3); (try simp only [Nat.sub_zero] at c6b3))
                try (have c6b4 := c6b2; simp only [ByteArray.size_append] at c6b4)
                try (have c6b6 := c6b2; (try simp only [ByteArray.size_append] at c6b6); simp only [ByteArray.size_extract, Nat.sub_zero] at c6b6)
                by_cases c7 : x8_1 < (a0.size : Int)
                · rw [if_pos c7] at H
                  have c7b0 : decide (x8_1 < (a0.size : Int)) = true := decide_eq_true c7
                  clear c7
                  by_cases c9 : (wrap64 ((wrap64 (x4_1 + 1)) * (((bt a0 x8_1) - 48) % 256))) = 5
                  · rw [if_pos c9] at H
                    have c9b0 : ((wrap64 ((wrap64 (x4_1 + 1)) * (((bt a0 x8_1) - 48) % 256))) == 5) = true := beq_iff_eq.mpr c9
                    have c9b1 : ((wrap64 ((wrap64 (x4_1 + 1)) * (((bt a0 x8_1) - 48) % 256))) != 5) = false := bne_eq_false_iff_eq.mpr c9
                    clear c9
                    by_cases c10 : (x3_1 ++ (a0.extract (x8_1 : Int).toNat ((wrap64 (x8_1 + 1)) : Int).toNat)).size + 1 ≤ 9223372036854775807
                    · rw [if_pos c10] at H
                      have c10b0 := eq_true c10
                      have c10b1 : decide ((x3_1 ++ (a0.extract (x8_1 : Int).toNat ((wrap64 (x8_1 + 1)) : Int).toNat)).size + 1 ≤ 9223372036854775807) = true := decide_eq_true c10
                      try have c10b2 : (9223372036854775807 < (x3_1 ++ (a0.extract (x8_1 : Int).toNat ((wrap64 (x8_1 + 1)) : Int).toNat)).size + 1) = False := eq_false (Nat.not_lt.2 c10)
                      try (have c10b3 := c10b2; (try simp only [ByteArray.size_append] at c10b3); simp only [ByteArray.size_extract] at c10b3; (repeat rw [Nat.min_eq_left (by first | omega | (simp only [eq_self_iff_true, eq_iff_iff, iff_true] at *; omega))] at c10b3); (try simp only [Nat.sub_zero] at c10b3))
                      try (have c10b4 := c10b2; simp only [ByteArray.size_append] at c10b4)
                      try (have c10b6 := c10b2; (try simp only [ByteArray.size_append] at c10b6); simp only [ByteArray.size_extract, Nat.sub_zero] at c10b6)
                      have H' := Aside0.mk H
                      clear H
                      have p8 : 0 ≤ (x8_1 : Int) := of_decide_eq_true (by first | (with_reducible assumption) | assumption)
                      have q8 : x8_1 < (a0.size : Int) := of_decide_eq_true (by first | (with_reducible assumption) | assumption)
                      have hx8 := bt_at a0 x8_1
                      replace p8 := eq_true p8
                      replace q8 := eq_true q8
                      go_wp2
                      go_roundg k1
                      case measure => have := HK1.out; omega
                      case rel => exact ⟨((x3_1 ++ (a0.extract (x8_1 : Int).toNat ((wrap64 (x8_1 + 1)) : Int).toNat)) ++ (⟨#[48]⟩ : ByteArray)), (0), (wrap64 (x8_1 + 1)), (by first | rfl | (simp; done) | (simp [*]; done) | exact (fun l : List UInt8 => by cases l <;> rfl : ∀ l : List UInt8, Value.bool (!l.isEmpty) = Value.bool (l != [])) _), (by first | rfl | (simp; done) | (simp [*]; done) | exact (fun l : List UInt8 => by cases l <;> rfl : ∀ l : List UInt8, Value.bool (!l.isEmpty) = Value.bool (l != [])) _), (by first | rfl | (simp; done) | (simp [*]; done) | exact (fun l : List UInt8 => by cases l <;> rfl : ∀ l : List UInt8, Value.bool (!l.isEmpty) = Value.bool (l != [])) _), H', ⟨by have := HK1.out; omega⟩, by repeat (first | exact Drawn0.refl _ | apply Drawn0.step)⟩
                    · rw [if_neg c10] at H
                      exact absurd H (by simp)
                  · rw [if_neg c9] at H
                    have c9b0 : ((wrap64 ((wrap64 (x4_1 + 1)) * (((bt a0 x8_1) - 48) % 256))) == 5) = false := beq_eq_false_iff_ne.mpr c9
                    have c9b1 : ((wrap64 ((wrap64 (x4_1 + 1)) * (((bt a0 x8_1) - 48) % 256))) != 5) = true := bne_iff_ne.mpr c9
                    have H' := Aside0.mk H
                    clear H
                    have p8 : 0 ≤ (x8_1 : Int) := of_decide_eq_true (by first | (with_reducible assumption) | assumption)
                    have q8 : x8_1 < (a0.size : Int) := of_decide_eq_true (by first | (with_reducible assumption) | assumption)
                    have hx8 := bt_at a0 x8_1
                    replace p8 := eq_true p8
                    replace q8 := eq_true q8
                    go_wp2
                    go_roundg k1
                    case measure => have := HK1.out; omega
                    case rel => exact ⟨(x3_1 ++ (a0.extract (x8_1 : Int).toNat ((wrap64 (x8_1 + 1)) : Int).toNat)), (wrap64 ((wrap64 (x4_1 + 1)) * (((bt a0 x8_1) - 48) % 256))), (wrap64 (x8_1 + 1)), (by first | rfl | (simp; done) | (simp [*]; done) | exact (fun l : List UInt8 => by cases l <;> rfl : ∀ l : List UInt8, Value.bool (!l.isEmpty) = Value.bool (l != [])) _), (by first | rfl | (simp; done) | (simp [*]; done) | exact (fun l : List UInt8 => by cases l <;> rfl : ∀ l : List UInt8, Value.bool (!l.isEmpty) = Value.bool (l != [])) _), (by first | rfl | (simp; done) | (simp [*]; done) | exact (fun l : List UInt8 => by cases l <;> rfl : ∀ l : List UInt8, Value.bool (!l.isEmpty) = Value.bool (l != [])) _), H', ⟨by have := HK1.out; omega⟩, by repeat (first | exact Drawn0.refl _ | apply Drawn0.step)⟩
                · rw [if_neg c7] at H
                  exact absurd H (by simp)
              · rw [if_neg c6] at H
                exact absurd H (by simp)
            · rw [if_neg c5] at H
              exact absurd H (by simp)
          · rw [if_neg c4] at H
            exact absurd H (by simp)
        · rw [if_neg c3] at H
          exact absurd H (by simp)
      · rw [if_neg c2] at H
        have c2b0 : decide (x8_1 < (a0.size : Int)) = false := decide_eq_false c2
        clear c2
        obtain rfl := Option.some.inj H
        go_wp2
        go_ret
        exact ⟨by first | rfl | (simp; done) | (simp [*]; done) | exact (fun l : List UInt8 => by cases l <;> rfl : ∀ l : List UInt8, Value.bool (!l.isEmpty) = Value.bool (l != [])) _, by repeat (first | exact Drawn0.refl _ | apply Drawn0.step)⟩

/-! ### impl_StuffBits: function 17 -/
def impl_StuffBits.f (k : Nat) (a0 : ByteArray) : Option (ByteArray) := (impl_ValidBits.f a0).bind fun t108 => (if t108 = true then ((impl_stuffed.f k a0).bind fun t109 => (some t109)) else (some (⟨#[]⟩ : ByteArray)))
theorem impl_StuffBits.mono : ∀ a0 k, LeO (impl_StuffBits.f k a0) (impl_StuffBits.f (k + 1) a0) := by
  intro a0 k
  unfold impl_StuffBits.f
  repeat' first
      | (with_reducible exact impl_stuffed.mono _ _)
      | (with_reducible exact LeO.refl _)
      | (with_reducible exact LeO.none _)
      | (with_reducible refine LeO.ite ?_ ?_)
      | (with_reducible refine LeO.bind ?_ (fun _ => ?_))
      | exact impl_stuffed.mono _ _
      | exact LeO.none _
      | refine LeO.ite ?_ ?_
      | refine LeO.bind ?_ (fun _ => ?_)
set_option maxHeartbeats 8000000 in
set_option maxRecDepth 100000 in
theorem impl_StuffBits.calls (k : Nat) (a0 : ByteArray) (r : ByteArray) (w : World) (h : impl_StuffBits.f k a0 = some r) :
    Calls Tryd.prog 17 #[.string a0] w fun e w' => e = .returned (.string r) ∧ Below w.heap.size w w' := by
  have HB := Aside0.mk (Below.refl w.heap.size w)
  have H : ((impl_ValidBits.f a0).bind fun t108 => (if t108 = true then ((impl_stuffed.f k a0).bind fun t109 => (some t109)) else (some (⟨#[]⟩ : ByteArray)))) = some r := h
  clear h
  replace H := Option.bind_eq_some_iff.mp H
  obtain ⟨t108, A20, H⟩ := H
  replace H : (if t108 = true then ((impl_stuffed.f k a0).bind fun t109 => (some t109)) else (some (⟨#[]⟩ : ByteArray))) = some r := H
  have A2 := Aside0.mk A20
  clear A20
  by_cases c3 : t108 = true
  · subst c3
    have H1 : ((impl_stuffed.f k a0).bind fun t109 => (some t109)) = some r := by rw [if_pos rfl] at H; exact H
    clear H
    have H := H1
    clear H1
    replace H := Option.bind_eq_some_iff.mp H
    obtain ⟨t109, A40, H⟩ := H
    replace H : (some t109) = some r := H
    have A4 := Aside0.mk A40
    clear A40
    obtain rfl := Option.some.inj H
    go_enter Tryd.func17, Tryd.ntmps17
    go_wp2_with (first | ((with_reducible refine gate_callee (f := 14) rfl ?_); refine goesL_ (some 4) rfl rfl Tryd.func14 (by kernel_rfl) rfl #[.string a0] rfl (by (try simp only [List.map_toArray, List.map_cons, List.map_nil]); first | done | rfl | (simp only [List.length_drop, List.length_take]; rfl)) ?_; (with_reducible refine (impl_ValidBits.calls a0 true _ A2.out).mono ?_); rintro e w5 ⟨rfl, hb⟩; refine ⟨_, rfl, ?_⟩; have n0_ := Aside0.mk (below_step (by repeat (first | (with_reducible first | exact HB.out | apply below_alloc | apply pw_below_drewN | apply below_drew1) | exact HB.out)) hb); clear HB; have HB := n0_; clear n0_; (try clear hb); (try clear hb2); (try clear hk); (try clear hi)) | ((with_reducible refine gate_callee (f := 39) rfl ?_); refine goesL_ (some 7) rfl rfl Tryd.func39 (by kernel_rfl) rfl #[.string a0] rfl (by (try simp only [List.map_toArray, List.map_cons, List.map_nil]); first | done | rfl | (simp only [List.length_drop, List.length_take]; rfl)) ?_; (with_reducible refine (impl_stuffed.calls k a0 t109 _ A4.out).mono ?_); rintro e w' ⟨rfl, ⟨nd, rfl⟩⟩; refine ⟨_, rfl, ?_⟩))
    go_ret
    exact ⟨by first | rfl | (simp [errW_none, errW_some] <;> rfl) | (simp [*, errW_none, errW_some] <;> rfl), by repeat (first | (with_reducible first | exact HB.out | apply below_alloc | apply pw_below_drewN | apply below_drew1) | exact HB.out)⟩
  · replace c3 := Bool.eq_false_iff.mpr c3
    subst c3
    have H1 : (some (⟨#[]⟩ : ByteArray)) = some r := by rw [if_neg (show ¬ (false = true) by decide)] at H; exact H
    clear H
    have H := H1
    clear H1
    obtain rfl := Option.some.inj H
    go_enter Tryd.func17, Tryd.ntmps17
    go_wp2_with (first | ((with_reducible refine gate_callee (f := 14) rfl ?_); refine goesL_ (some 4) rfl rfl Tryd.func14 (by kernel_rfl) rfl #[.string a0] rfl (by (try simp only [List.map_toArray, List.map_cons, List.map_nil]); first | done | rfl | (simp only [List.length_drop, List.length_take]; rfl)) ?_; (with_reducible refine (impl_ValidBits.calls a0 false _ A2.out).mono ?_); rintro e w6 ⟨rfl, hb⟩; refine ⟨_, rfl, ?_⟩; have n0_ := Aside0.mk (below_step (by repeat (first | (with_reducible first | exact HB.out | apply below_alloc | apply pw_below_drewN | apply below_drew1) | exact HB.out)) hb); clear HB; have HB := n0_; clear n0_; (try clear hb); (try clear hb2); (try clear hk); (try clear hi)))
    go_ret
    exact ⟨by first | rfl | (simp [errW_none, errW_some] <;> rfl) | (simp [*, errW_none, errW_some] <;> rfl), by repeat (first | (with_reducible first | exact HB.out | apply below_alloc | apply pw_below_drewN | apply below_drew1) | exact HB.out)⟩

end Go.Proofs.YtbgchgjefohpoaaDoor.P
