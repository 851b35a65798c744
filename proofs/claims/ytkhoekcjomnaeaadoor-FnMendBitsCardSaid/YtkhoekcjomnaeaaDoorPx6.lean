/- Written by a program: each theorem '.calls' says that the call of a function of the given program comes to what the Lean function beside it says; no condition but what stands in it. -/
import Derived.Test.YtkhoekcjomnaeaaDoorPx0
import Derived.Test.YtkhoekcjomnaeaaDoorPx2
import Derived.Test.YtkhoekcjomnaeaaDoorPx5
namespace Go.Proofs.YtkhoekcjomnaeaaDoor.P
open Go.RowKit Go.Proofs.YtkhoekcjomnaeaaDoorW.PrintWords Go.Proofs.YtkhoekcjomnaeaaDoorW.PrintLast Go.Proofs.YtkhoekcjomnaeaaDoorW.PrintMore
attribute [local go_sem] max2_int min2_int max_two min_two max_three min_three max_four min_four   -- for this text's walks alone
set_option linter.unusedVariables false
set_option linter.unusedSimpArgs false

/-! ### spec_MendBits: function 7 -/
mutual
def spec_MendBits.j0 : Nat → ByteArray → Bool → Option (ByteArray × Int)
  | 0, _, _ => none
  | k + 1, x0, x13 => if x13 = true then (some ((⟨#[]⟩ : ByteArray), (-1))) else (spec_MendBits.l0 k x0 0 1)
def spec_MendBits.l0 : Nat → ByteArray → Int → Int → Option (ByteArray × Int)
  | 0, _, _, _ => none
  | k + 1, x0, x4, x5 => if x5 ≤ 7 then (if 0 ≤ (wrap64 (x5 - 1)) then (if (wrap64 (x5 - 1)) < (x0.size : Int) then (if (bt x0 (wrap64 (x5 - 1))) = 49 then (spec_MendBits.l0 k x0 (Go.bits .xor .i64 x4 x5) (wrap64 (x5 + 1))) else (spec_MendBits.l0 k x0 x4 (wrap64 (x5 + 1)))) else (none)) else (none)) else (if x4 > 0 then (if 0 ≤ (wrap64 (x4 - 1)) then (if (wrap64 (x4 - 1)) ≤ (x0.size : Int) then (if (wrap64 (x4 - 1)) ≤ x4 then (if x4 ≤ (x0.size : Int) then ((spec_differ.f k (x0.extract ((wrap64 (x4 - 1)) : Int).toNat (x4 : Int).toNat) (⟨#[49]⟩ : ByteArray)).bind fun t121 => (if (x0.extract 0 ((wrap64 (x4 - 1)) : Int).toNat).size + t121.size ≤ 9223372036854775807 then (if 0 ≤ x4 then (if ((x0.extract 0 ((wrap64 (x4 - 1)) : Int).toNat) ++ t121).size + (x0.extract (x4 : Int).toNat x0.size).size ≤ 9223372036854775807 then (if 2 ≤ 3 then (if 3 ≤ ((((x0.extract 0 ((wrap64 (x4 - 1)) : Int).toNat) ++ t121) ++ (x0.extract (x4 : Int).toNat x0.size)).size : Int) then (if 4 ≤ 7 then (if 7 ≤ ((((x0.extract 0 ((wrap64 (x4 - 1)) : Int).toNat) ++ t121) ++ (x0.extract (x4 : Int).toNat x0.size)).size : Int) then (if ((((x0.extract 0 ((wrap64 (x4 - 1)) : Int).toNat) ++ t121) ++ (x0.extract (x4 : Int).toNat x0.size)).extract 2 3).size + ((((x0.extract 0 ((wrap64 (x4 - 1)) : Int).toNat) ++ t121) ++ (x0.extract (x4 : Int).toNat x0.size)).extract 4 7).size ≤ 9223372036854775807 then (some (((((x0.extract 0 ((wrap64 (x4 - 1)) : Int).toNat) ++ t121) ++ (x0.extract (x4 : Int).toNat x0.size)).extract 2 3) ++ ((((x0.extract 0 ((wrap64 (x4 - 1)) : Int).toNat) ++ t121) ++ (x0.extract (x4 : Int).toNat x0.size)).extract 4 7), x4)) else (none)) else (none)) else (none)) else (none)) else (none)) else (none)) else (none)) else (none))) else (none)) else (none)) else (none)) else (none)) else (if 2 ≤ 3 then (if 3 ≤ (x0.size : Int) then (if 4 ≤ 7 then (if 7 ≤ (x0.size : Int) then (if (x0.extract 2 3).size + (x0.extract 4 7).size ≤ 9223372036854775807 then (some ((x0.extract 2 3) ++ (x0.extract 4 7), x4)) else (none)) else (none)) else (none)) else (none)) else (none)))
end
def spec_MendBits.f (k : Nat) (a0 : ByteArray) : Option (ByteArray × Int) := (spec_validBits.f k a0).bind fun t120 => (if t120 = true then (spec_MendBits.j0 k a0 ((a0.size : Int) != 7)) else (spec_MendBits.j0 k a0 true))
theorem spec_MendBits.mono_l : ∀ k, (∀ y0 y1, LeO (spec_MendBits.j0 k y0 y1) (spec_MendBits.j0 (k + 1) y0 y1)) ∧ (∀ y0 y1 y2, LeO (spec_MendBits.l0 k y0 y1 y2) (spec_MendBits.l0 (k + 1) y0 y1 y2))
  | 0 => ⟨fun _ _ r h => by simp [spec_MendBits.j0] at h, fun _ _ _ r h => by simp [spec_MendBits.l0] at h⟩
  | k + 1 => by
    obtain ⟨ih0, ih1⟩ := spec_MendBits.mono_l k
    refine ⟨?_, ?_⟩
    · intro y0 y1
      unfold spec_MendBits.j0
      repeat' first
      | (with_reducible exact ih0 _ _)
      | (with_reducible exact ih1 _ _ _)
      | (with_reducible exact spec_differ.mono _ _ _)
      | (with_reducible exact spec_validBits.mono _ _)
      | (with_reducible exact LeO.refl _)
      | (with_reducible exact LeO.none _)
      | (with_reducible refine LeO.ite ?_ ?_)
      | (with_reducible refine LeO.bind ?_ (fun _ => ?_))
      | exact ih0 _ _
      | exact ih1 _ _ _
      | exact spec_differ.mono _ _ _
      | exact spec_validBits.mono _ _
      | exact LeO.none _
      | refine LeO.ite ?_ ?_
      | refine LeO.bind ?_ (fun _ => ?_)
    · intro y0 y1 y2
      unfold spec_MendBits.l0
      repeat' first
      | (with_reducible exact ih0 _ _)
      | (with_reducible exact ih1 _ _ _)
      | (with_reducible exact spec_differ.mono _ _ _)
      | (with_reducible exact spec_validBits.mono _ _)
      | (with_reducible exact LeO.refl _)
      | (with_reducible exact LeO.none _)
      | (with_reducible refine LeO.ite ?_ ?_)
      | (with_reducible refine LeO.bind ?_ (fun _ => ?_))
      | exact ih0 _ _
      | exact ih1 _ _ _
      | exact spec_differ.mono _ _ _
      | exact spec_validBits.mono _ _
      | exact LeO.none _
      | refine LeO.ite ?_ ?_
      | refine LeO.bind ?_ (fun _ => ?_)
theorem spec_MendBits.mono : ∀ a0 k, LeO (spec_MendBits.f k a0) (spec_MendBits.f (k + 1) a0) := by
  intro a0 k
  obtain ⟨ih0, ih1⟩ := spec_MendBits.mono_l k
  unfold spec_MendBits.f
  repeat' first
      | (with_reducible exact ih0 _ _)
      | (with_reducible exact ih1 _ _ _)
      | (with_reducible exact spec_differ.mono _ _ _)
      | (with_reducible exact spec_validBits.mono _ _)
      | (with_reducible exact LeO.refl _)
      | (with_reducible exact LeO.none _)
      | (with_reducible refine LeO.ite ?_ ?_)
      | (with_reducible refine LeO.bind ?_ (fun _ => ?_))
      | exact ih0 _ _
      | exact ih1 _ _ _
      | exact spec_differ.mono _ _ _
      | exact spec_validBits.mono _ _
      | exact LeO.none _
      | refine LeO.ite ?_ ?_
      | refine LeO.bind ?_ (fun _ => ?_)
set_option maxHeartbeats 8000000 in
set_option maxRecDepth 100000 in
theorem spec_MendBits.calls (k : Nat) (a0 : ByteArray) (r1 : ByteArray) (r2 : Int) (w : World) (h : spec_MendBits.f k a0 = some (r1, r2)) :
    Calls Tryd.prog 7 #[.string a0] w fun e w' => e = .returned (.tuple #[.string r1, .int .i64 r2]) ∧ Drawn0 w w' := by
  have H : ((spec_validBits.f k a0).bind fun t120 => (if t120 = true then (spec_MendBits.j0 k a0 ((a0.size : Int) != 7)) else (spec_MendBits.j0 k a0 true))) = some (r1, r2) := h
  clear h
  have HC2 := Aside0.mk H
  clear H
  go_enter Tryd.func7, Tryd.ntmps7
  go_upto_region 1 with (fail)
  repeat (go_quiet (fail); go_upto_region 1 with (fail))
  go_cut [13] (fun v13 wc => ∃ (kq : Nat) (x13_1 : Bool), v13 = .bool x13_1 ∧ Aside0 (spec_MendBits.j0 kq a0 x13_1 = some (r1, r2)) ∧ Aside0 (kq ≤ k) ∧ Drawn0 w wc)
  case first =>
    have H := HC2.out
    clear HC2
    replace H := Option.bind_eq_some_iff.mp H
    obtain ⟨t120, A30, H⟩ := H
    replace H : (if t120 = true then (spec_MendBits.j0 k a0 ((a0.size : Int) != 7)) else (spec_MendBits.j0 k a0 true)) = some (r1, r2) := H
    have A3 := Aside0.mk A30
    clear A30
    by_cases c4 : t120 = true
    · subst c4
      have H1 : (spec_MendBits.j0 k a0 ((a0.size : Int) != 7)) = some (r1, r2) := by rw [if_pos rfl] at H; exact H
      clear H
      have H := H1
      clear H1
      have H' := Aside0.mk H
      clear H
      go_wp2_with (first | (go_at_call 14; (with_reducible refine (spec_validBits.calls k a0 true _ A3.out).mono ?_); rintro e w' ⟨rfl, ⟨nd, rfl⟩⟩; (try first | exact ⟨rfl, _, World.drewN_drewN _ _ _⟩ | exact ⟨rfl, _, Eq.trans (World.drewN_drewN _ _ _) (congrArg (World.drewN _) (Nat.add_assoc _ _ _))⟩)))
      repeat (go_quiet (first | (go_at_call 14; (with_reducible refine (spec_validBits.calls k a0 true _ A3.out).mono ?_); rintro e w' ⟨rfl, ⟨nd, rfl⟩⟩; (try first | exact ⟨rfl, _, World.drewN_drewN _ _ _⟩ | exact ⟨rfl, _, Eq.trans (World.drewN_drewN _ _ _) (congrArg (World.drewN _) (Nat.add_assoc _ _ _))⟩))); try go_wp2_with (first | (go_at_call 14; (with_reducible refine (spec_validBits.calls k a0 true _ A3.out).mono ?_); rintro e w' ⟨rfl, ⟨nd, rfl⟩⟩; (try first | exact ⟨rfl, _, World.drewN_drewN _ _ _⟩ | exact ⟨rfl, _, Eq.trans (World.drewN_drewN _ _ _) (congrArg (World.drewN _) (Nat.add_assoc _ _ _))⟩))))
      go_meet
      case rel => exact ⟨_, (((a0.size : Int) != 7)), (by first | rfl | (simp; done) | (simp [*]; done) | exact (fun l : List UInt8 => by cases l <;> rfl : ∀ l : List UInt8, Value.bool (!l.isEmpty) = Value.bool (l != [])) _), H', ⟨by first | omega | exact Nat.le_refl _⟩, by repeat (first | exact Drawn0.refl _ | apply Drawn0.step)⟩
    · replace c4 := Bool.eq_false_iff.mpr c4
      subst c4
      have H1 : (spec_MendBits.j0 k a0 true) = some (r1, r2) := by rw [if_neg (show ¬ (false = true) by decide)] at H; exact H
      clear H
      have H := H1
      clear H1
      have H' := Aside0.mk H
      clear H
      go_wp2_with (first | (go_at_call 14; (with_reducible refine (spec_validBits.calls k a0 false _ A3.out).mono ?_); rintro e w' ⟨rfl, ⟨nd, rfl⟩⟩; (try first | exact ⟨rfl, _, World.drewN_drewN _ _ _⟩ | exact ⟨rfl, _, Eq.trans (World.drewN_drewN _ _ _) (congrArg (World.drewN _) (Nat.add_assoc _ _ _))⟩)))
      repeat (go_quiet (first | (go_at_call 14; (with_reducible refine (spec_validBits.calls k a0 false _ A3.out).mono ?_); rintro e w' ⟨rfl, ⟨nd, rfl⟩⟩; (try first | exact ⟨rfl, _, World.drewN_drewN _ _ _⟩ | exact ⟨rfl, _, Eq.trans (World.drewN_drewN _ _ _) (congrArg (World.drewN _) (Nat.add_assoc _ _ _))⟩))); try go_wp2_with (first | (go_at_call 14; (with_reducible refine (spec_validBits.calls k a0 false _ A3.out).mono ?_); rintro e w' ⟨rfl, ⟨nd, rfl⟩⟩; (try first | exact ⟨rfl, _, World.drewN_drewN _ _ _⟩ | exact ⟨rfl, _, Eq.trans (World.drewN_drewN _ _ _) (congrArg (World.drewN _) (Nat.add_assoc _ _ _))⟩))))
      go_meet
      case rel => exact ⟨_, (true), (by first | rfl | (simp; done) | (simp [*]; done) | exact (fun l : List UInt8 => by cases l <;> rfl : ∀ l : List UInt8, Value.bool (!l.isEmpty) = Value.bool (l != [])) _), H', ⟨by first | omega | exact Nat.le_refl _⟩, by repeat (first | exact Drawn0.refl _ | apply Drawn0.step)⟩
  case rest =>
    clear HC2
    try clear p2
    try clear c4
    obtain ⟨kq, x13_1, rfl, HA, HJ1, ⟨mc1, rfl⟩⟩ := hcut
    cases kq with
    | zero => exact absurd HA.out (by simp [spec_MendBits.j0])
    | succ kj1 =>
      have H := HA.out
      clear HA
      simp only [spec_MendBits.j0] at H
      by_cases c5 : x13_1 = true
      · subst c5
        have H1 : (some ((⟨#[]⟩ : ByteArray), (-1))) = some (r1, r2) := by rw [if_pos rfl] at H; exact H
        clear H
        have H := H1
        clear H1
        simp only [Option.some.injEq, Prod.mk.injEq] at H
        obtain ⟨rfl, rfl⟩ := H
        go_wp2
        repeat (go_quiet (fail); try go_wp2)
        go_ret2
        exact ⟨by first | rfl | (simp; done) | (simp [*]; done) | exact (fun l : List UInt8 => by cases l <;> rfl : ∀ l : List UInt8, Value.bool (!l.isEmpty) = Value.bool (l != [])) _, by repeat (first | exact Drawn0.refl _ | apply Drawn0.step)⟩
      · replace c5 := Bool.eq_false_iff.mpr c5
        subst c5
        have H1 : (spec_MendBits.l0 kj1 a0 0 1) = some (r1, r2) := by rw [if_neg (show ¬ (false = true) by decide)] at H; exact H
        clear H
        have H := H1
        clear H1
        have H' := Aside0.mk H
        clear H
        go_wp2
        repeat (go_quiet (fail); try go_wp2)
        go_loopg [4, 5] kj1 (fun kq v4 v5 w' => ∃ (x4_2 : Int) (x5_2 : Int), v4 = .int .i64 x4_2 ∧ v5 = .int .i64 x5_2 ∧ Aside0 (spec_MendBits.l0 kq a0 x4_2 x5_2 = some (r1, r2)) ∧ Aside0 (kq ≤ kj1) ∧ Drawn0 w w')
        case atStart => exact ⟨(0), (1), (by first | rfl | (simp; done) | (simp [*]; done) | exact (fun l : List UInt8 => by cases l <;> rfl : ∀ l : List UInt8, Value.bool (!l.isEmpty) = Value.bool (l != [])) _), (by first | rfl | (simp; done) | (simp [*]; done) | exact (fun l : List UInt8 => by cases l <;> rfl : ∀ l : List UInt8, Value.bool (!l.isEmpty) = Value.bool (l != [])) _), H', ⟨Nat.le_refl _⟩, by repeat (first | exact Drawn0.refl _ | apply Drawn0.step)⟩
        case round =>
          clear H'
          try clear c1
          try clear p2
          try clear c4
          try clear c5
          try clear p2
          obtain ⟨x4_2, x5_2, rfl, rfl, HA, HK2, ⟨m2, rfl⟩⟩ := hrel
          cases gk with
          | zero => exact absurd HA.out (by simp [spec_MendBits.l0])
          | succ k2 =>
            have H := HA.out
            clear HA
            simp only [spec_MendBits.l0] at H
            by_cases c6 : x5_2 ≤ 7
            · rw [if_pos c6] at H
              have c6b0 : decide (x5_2 ≤ 7) = true := decide_eq_true c6
              clear c6
              obtain ⟨ji7, hji7⟩ : ∃ j_ : Int, (wrap64 (x5_2 - 1)) = j_ := ⟨_, rfl⟩
              replace H : (if 0 ≤ (ji7) then (if (ji7) < (a0.size : Int) then (if (bt a0 (ji7)) = 49 then (spec_MendBits.l0 k2 a0 (Go.bits .xor .i64 x4_2 x5_2) (wrap64 (x5_2 + 1))) else (spec_MendBits.l0 k2 a0 x4_2 (wrap64 (x5_2 + 1)))) else (none)) else (none)) = some (r1, r2) := by first | (rw [hji7] at H; exact H) | (simp only [hji7] at H ⊢; exact H)
              have hji7w : (IntKind.i64.wrap (x5_2 - 1)) = ji7 := (i64_w _).trans hji7
              by_cases c8 : 0 ≤ (ji7)
              · rw [if_pos c8] at H
                have c8b0 : decide (0 ≤ (ji7)) = true := decide_eq_true c8
                clear c8
                by_cases c9 : (ji7) < (a0.size : Int)
                · rw [if_pos c9] at H
                  have c9b0 : decide ((ji7) < (a0.size : Int)) = true := decide_eq_true c9
                  clear c9
                  by_cases c11 : (bt a0 (ji7)) = 49
                  · rw [if_pos c11] at H
                    have c11b0 : ((bt a0 (ji7)) == 49) = true := beq_iff_eq.mpr c11
                    have c11b1 : ((bt a0 (ji7)) != 49) = false := bne_eq_false_iff_eq.mpr c11
                    clear c11
                    have H' := Aside0.mk H
                    clear H
                    have p10 : 0 ≤ ((ji7) : Int) := of_decide_eq_true (by first | (with_reducible assumption) | assumption)
                    have q10 : (ji7) < (a0.size : Int) := of_decide_eq_true (by first | (with_reducible assumption) | assumption)
                    have hx10 := bt_at a0 (ji7)
                    replace p10 := eq_true p10
                    replace q10 := eq_true q10
                    go_wp2
                    repeat (go_quiet (fail); try go_wp2)
                    go_roundg k2
                    case measure => have := HJ1.out; have := HK2.out; omega
                    case rel => exact ⟨(Go.bits .xor .i64 x4_2 x5_2), (wrap64 (x5_2 + 1)), (by first | rfl | (simp; done) | (simp [*]; done) | exact (fun l : List UInt8 => by cases l <;> rfl : ∀ l : List UInt8, Value.bool (!l.isEmpty) = Value.bool (l != [])) _), (by first | rfl | (simp; done) | (simp [*]; done) | exact (fun l : List UInt8 => by cases l <;> rfl : ∀ l : List UInt8, Value.bool (!l.isEmpty) = Value.bool (l != [])) _), H', ⟨by have := HJ1.out; have := HK2.out; omega⟩, by repeat (first | exact Drawn0.refl _ | apply Drawn0.step)⟩
                  · rw [if_neg c11] at H
                    have c11b0 : ((bt a0 (ji7)) == 49) = false := beq_eq_false_iff_ne.mpr c11
                    have c11b1 : ((bt a0 (ji7)) != 49) = true := bne_iff_ne.mpr c11
                    have H' := Aside0.mk H
                    clear H
                    have p10 : 0 ≤ ((ji7) : Int) := of_decide_eq_true (by first | (with_reducible assumption) | assumption)
                    have q10 : (ji7) < (a0.size : Int) := of_decide_eq_true (by first | (with_reducible assumption) | assumption)
                    have hx10 := bt_at a0 (ji7)
                    replace p10 := eq_true p10
                    replace q10 := eq_true q10
                    go_wp2
                    repeat (go_quiet (fail); try go_wp2)
                    go_roundg k2
                    case measure => have := HJ1.out; have := HK2.out; omega
                    case rel => exact ⟨(x4_2), (wrap64 (x5_2 + 1)), (by first | rfl | (simp; done) | (simp [*]; done) | exact (fun l : List UInt8 => by cases l <;> rfl : ∀ l : List UInt8, Value.bool (!l.isEmpty) = Value.bool (l != [])) _), (by first | rfl | (simp; done) | (simp [*]; done) | exact (fun l : List UInt8 => by cases l <;> rfl : ∀ l : List UInt8, Value.bool (!l.isEmpty) = Value.bool (l != [])) _), H', ⟨by have := HJ1.out; have := HK2.out; omega⟩, by repeat (first | exact Drawn0.refl _ | apply Drawn0.step)⟩
                · rw [if_neg c9] at H
                  exact absurd H (by simp)
              · rw [if_neg c8] at H
                exact absurd H (by simp)
            · rw [if_neg c6] at H
              have c6b0 : decide (x5_2 ≤ 7) = false := decide_eq_false c6
              clear c6
              by_cases c12 : x4_2 > 0
              · rw [if_pos c12] at H
                have c12b0 : decide (0 < x4_2) = true := decide_eq_true c12
                clear c12
                obtain ⟨ji13, hji13⟩ : ∃ j_ : Int, (wrap64 (x4_2 - 1)) = j_ := ⟨_, rfl⟩
                replace H : (if 0 ≤ (ji13) then (if (ji13) ≤ (a0.size : Int) then (if (ji13) ≤ x4_2 then (if x4_2 ≤ (a0.size : Int) then ((spec_differ.f k2 (a0.extract ((ji13) : Int).toNat (x4_2 : Int).toNat) (⟨#[49]⟩ : ByteArray)).bind fun t121 => (if (a0.extract 0 ((ji13) : Int).toNat).size + t121.size ≤ 9223372036854775807 then (if 0 ≤ x4_2 then (if ((a0.extract 0 ((ji13) : Int).toNat) ++ t121).size + (a0.extract (x4_2 : Int).toNat a0.size).size ≤ 9223372036854775807 then (if 2 ≤ 3 then (if 3 ≤ ((((a0.extract 0 ((ji13) : Int).toNat) ++ t121) ++ (a0.extract (x4_2 : Int).toNat a0.size)).size : Int) then (if 4 ≤ 7 then (if 7 ≤ ((((a0.extract 0 ((ji13) : Int).toNat) ++ t121) ++ (a0.extract (x4_2 : Int).toNat a0.size)).size : Int) then (if ((((a0.extract 0 ((ji13) : Int).toNat) ++ t121) ++ (a0.extract (x4_2 : Int).toNat a0.size)).extract 2 3).size + ((((a0.extract 0 ((ji13) : Int).toNat) ++ t121) ++ (a0.extract (x4_2 : Int).toNat a0.size)).extract 4 7).size ≤ 9223372036854775807 then (some (((((a0.extract 0 ((ji13) : Int).toNat) ++ t121) ++ (a0.extract (x4_2 : Int).toNat a0.size)).extract 2 3) ++ ((((a0.extract 0 ((ji13) : Int).toNat) ++ t121) ++ (a0.extract (x4_2 : Int).toNat a0.size)).extract 4 7), x4_2)) else (none)) else (none)) else (none)) else (none)) else (none)) else (none)) else (none)) else (none))) else (none)) else (none)) else (none)) else (none)) = some (r1, r2) := by first | (rw [hji13] at H; exact H) | (simp only [hji13] at H ⊢; exact H)
                have hji13w : (IntKind.i64.wrap (x4_2 - 1)) = ji13 := (i64_w _).trans hji13
                by_cases c14 : 0 ≤ (ji13)
                · rw [if_pos c14] at H
                  have c14b0 := eq_true c14
                  have c14b1 : decide (0 ≤ (ji13)) = true := decide_eq_true c14
                  clear c14
                  by_cases c15 : (ji13) ≤ (a0.size : Int)
                  · rw [if_pos c15] at H
                    have c15b0 := eq_true c15
                    have c15b1 : decide ((ji13) ≤ (a0.size : Int)) = true := decide_eq_true c15
                    clear c15
                    have c16b0 := eq_true (of_decide_eq_true (by first | (with_reducible assumption) | assumption) : 0 ≤ (ji13))
                    by_cases c17 : (ji13) ≤ x4_2
                    · rw [if_pos c17] at H
                      have c17b0 := eq_true c17
                      have c17b1 : decide ((ji13) ≤ x4_2) = true := decide_eq_true c17
                      clear c17
                      by_cases c18 : x4_2 ≤ (a0.size : Int)
                      · rw [if_pos c18] at H
                        have c18b0 := eq_true c18
                        have c18b1 : decide (x4_2 ≤ (a0.size : Int)) = true := decide_eq_true c18
                        clear c18
                        replace H := Option.bind_eq_some_iff.mp H
                        obtain ⟨t121, A190, H⟩ := H
                        replace H : (if (a0.extract 0 ((ji13) : Int).toNat).size + t121.size ≤ 9223372036854775807 then (if 0 ≤ x4_2 then (if ((a0.extract 0 ((ji13) : Int).toNat) ++ t121).size + (a0.extract (x4_2 : Int).toNat a0.size).size ≤ 9223372036854775807 then (if 2 ≤ 3 then (if 3 ≤ ((((a0.extract 0 ((ji13) : Int).toNat) ++ t121) ++ (a0.extract (x4_2 : Int).toNat a0.size)).size : Int) then (if 4 ≤ 7 then (if 7 ≤ ((((a0.extract 0 ((ji13) : Int).toNat) ++ t121) ++ (a0.extract (x4_2 : Int).toNat a0.size)).size : Int) then (if ((((a0.extract 0 ((ji13) : Int).toNat) ++ t121) ++ (a0.extract (x4_2 : Int).toNat a0.size)).extract 2 3).size + ((((a0.extract 0 ((ji13) : Int).toNat) ++ t121) ++ (a0.extract (x4_2 : Int).toNat a0.size)).extract 4 7).size ≤ 9223372036854775807 then (some (((((a0.extract 0 ((ji13) : Int).toNat) ++ t121) ++ (a0.extract (x4_2 : Int).toNat a0.size)).extract 2 3) ++ ((((a0.extract 0 ((ji13) : Int).toNat) ++ t121) ++ (a0.extract (x4_2 : Int).toNat a0.size)).extract 4 7), x4_2)) else (none)) else (none)) else (none)) else (none)) else (none)) else (none)) else (none)) else (none)) = some (r1, r2) := H
                        have A19 := Aside0.mk A190
                        clear A190
                        by_cases c20 : (a0.extract 0 ((ji13) : Int).toNat).size + t121.size ≤ 9223372036854775807
                        · rw [if_pos c20] at H
                          have c20b0 := eq_true c20
                          have c20b1 : decide ((a0.extract 0 ((ji13) : Int).toNat).size + t121.size ≤ 9223372036854775807) = true := decide_eq_true c20
                          try have c20b2 : (9223372036854775807 < (a0.extract 0 ((ji13) : Int).toNat).size + t121.size) = False := eq_false (Nat.not_lt.2 c20)
                          try (have c20b3 := c20b2; (try simp only [ByteArray.size_append] at c20b3); simp only [ByteArray.size_extract] at c20b3; (repeat rw [Nat.min_eq_left (by first | omega | (simp only [eq_self_iff_true, eq_iff_iff, iff_true] at *; omega))] at c20b3); (try simp only [Nat.sub_zero] at c20b3))
                          try (have c20b4 := c20b2; simp only [ByteArray.size_append] at c20b4)
                          try (have c20b6 := c20b2; (try simp only [ByteArray.size_append] at c20b6); simp only [ByteArray.size_extract, Nat.sub_zero] at c20b6)
                          by_cases c21 : 0 ≤ x4_2
                          · rw [if_pos c21] at H
                            have c21b0 := eq_true c21
                            have c21b1 : decide (0 ≤ x4_2) = true := decide_eq_true c21
                            clear c21
                            have c22b0 := eq_true (of_decide_eq_true (by first | (with_reducible assumption) | assumption) : x4_2 ≤ (a0.size : Int))
                            by_cases c23 : ((a0.extract 0 ((ji13) : Int).toNat) ++ t121).size + (a0.extract (x4_2 : Int).toNat a0.size).size ≤ 9223372036854775807
                            · rw [if_pos c23] at H
                              have c23b0 := eq_true c23
                              have c23b1 : decide (((a0.extract 0 ((ji13) : Int).toNat) ++ t121).size + (a0.extract (x4_2 : Int).toNat a0.size).size ≤ 9223372036854775807) = true := decide_eq_true c23
                              try have c23b2 : (9223372036854775807 < ((a0.extract 0 ((ji13) : Int).toNat) ++ t121).size + (a0.extract (x4_2 : Int).toNat a0.size).size) = False := eq_false (Nat.not_lt.2 c23)
                              try (have c23b3 := c23b2; (try simp only [ByteArray.size_append] at c23b3); simp only [ByteArray.size_extract] at c23b3; (repeat rw [Nat.min_eq_left (by first | omega | (simp only [eq_self_iff_true, eq_iff_iff, iff_true] at *; omega))] at c23b3); (try simp only [Nat.sub_zero] at c23b3))
                              try (have c23b4 := c23b2; simp only [ByteArray.size_append] at c23b4)
                              try (have c23b6 := c23b2; (try simp only [ByteArray.size_append] at c23b6); simp only [ByteArray.size_extract, Nat.sub_zero] at c23b6)
                              by_cases c24 : 2 ≤ 3
                              · rw [if_pos c24] at H
                                have c24b0 := eq_true c24
                                have c24b1 : decide (2 ≤ 3) = true := decide_eq_true c24
                                clear c24
                                by_cases c25 : 3 ≤ ((((a0.extract 0 ((ji13) : Int).toNat) ++ t121) ++ (a0.extract (x4_2 : Int).toNat a0.size)).size : Int)
                                · rw [if_pos c25] at H
                                  have c25b0 := eq_true c25
                                  have c25b1 : decide (3 ≤ ((((a0.extract 0 ((ji13) : Int).toNat) ++ t121) ++ (a0.extract (x4_2 : Int).toNat a0.size)).size : Int)) = true := decide_eq_true c25
                                  by_cases c26 : 4 ≤ 7
                                  · rw [if_pos c26] at H
                                    have c26b0 := eq_true c26
                                    have c26b1 : decide (4 ≤ 7) = true := decide_eq_true c26
                                    clear c26
                                    by_cases c27 : 7 ≤ ((((a0.extract 0 ((ji13) : Int).toNat) ++ t121) ++ (a0.extract (x4_2 : Int).toNat a0.size)).size : Int)
                                    · rw [if_pos c27] at H
                                      have c27b0 := eq_true c27
                                      have c27b1 : decide (7 ≤ ((((a0.extract 0 ((ji13) : Int).toNat) ++ t121) ++ (a0.extract (x4_2 : Int).toNat a0.size)).size : Int)) = true := decide_eq_true c27
                                      by_cases c28 : ((((a0.extract 0 ((ji13) : Int).toNat) ++ t121) ++ (a0.extract (x4_2 : Int).toNat a0.size)).extract 2 3).size + ((((a0.extract 0 ((ji13) : Int).toNat) ++ t121) ++ (a0.extract (x4_2 : Int).toNat a0.size)).extract 4 7).size ≤ 9223372036854775807
                                      · rw [if_pos c28] at H
                                        have c28b0 := eq_true c28
                                        have c28b1 : decide (((((a0.extract 0 ((ji13) : Int).toNat) ++ t121) ++ (a0.extract (x4_2 : Int).toNat a0.size)).extract 2 3).size + ((((a0.extract 0 ((ji13) : Int).toNat) ++ t121) ++ (a0.extract (x4_2 : Int).toNat a0.size)).extract 4 7).size ≤ 9223372036854775807) = true := decide_eq_true c28
                                        try have c28b2 : (9223372036854775807 < ((((a0.extract 0 ((ji13) : Int).toNat) ++ t121) ++ (a0.extract (x4_2 : Int).toNat a0.size)).extract 2 3).size + ((((a0.extract 0 ((ji13) : Int).toNat) ++ t121) ++ (a0.extract (x4_2 : Int).toNat a0.size)).extract 4 7).size) = False := eq_false (Nat.not_lt.2 c28)
                                        try (have c28b3 := c28b2; (try simp only [ByteArray.size_append] at c28b3); simp only [ByteArray.size_extract] at c28b3; (repeat rw [Nat.min_eq_left (by first | omega | (simp only [eq_self_iff_true, eq_iff_iff, iff_true] at *; omega))] at c28b3); (try simp only [Nat.sub_zero] at c28b3))
                                        try (have c28b4 := c28b2; simp only [ByteArray.size_append] at c28b4)
                                        try (have c28b6 := c28b2; (try simp only [ByteArray.size_append] at c28b6); simp only [ByteArray.size_extract, Nat.sub_zero] at c28b6)
                                        simp only [Option.some.injEq, Prod.mk.injEq] at H
                                        obtain ⟨rfl, rfl⟩ := H
                                        go_wp2_with (first | (go_at_call 15; (with_reducible refine (spec_differ.calls k2 (a0.extract ((ji13) : Int).toNat (x4_2 : Int).toNat) (⟨#[49]⟩ : ByteArray) t121 _ A19.out).mono ?_); rintro e w' ⟨rfl, ⟨nd, rfl⟩⟩; (try first | exact ⟨rfl, _, World.drewN_drewN _ _ _⟩ | exact ⟨rfl, _, Eq.trans (World.drewN_drewN _ _ _) (congrArg (World.drewN _) (Nat.add_assoc _ _ _))⟩)))
                                        repeat (go_quiet (first | (go_at_call 15; (with_reducible refine (spec_differ.calls k2 (a0.extract ((ji13) : Int).toNat (x4_2 : Int).toNat) (⟨#[49]⟩ : ByteArray) t121 _ A19.out).mono ?_); rintro e w' ⟨rfl, ⟨nd, rfl⟩⟩; (try first | exact ⟨rfl, _, World.drewN_drewN _ _ _⟩ | exact ⟨rfl, _, Eq.trans (World.drewN_drewN _ _ _) (congrArg (World.drewN _) (Nat.add_assoc _ _ _))⟩))); try go_wp2_with (first | (go_at_call 15; (with_reducible refine (spec_differ.calls k2 (a0.extract ((ji13) : Int).toNat (x4_2 : Int).toNat) (⟨#[49]⟩ : ByteArray) t121 _ A19.out).mono ?_); rintro e w' ⟨rfl, ⟨nd, rfl⟩⟩; (try first | exact ⟨rfl, _, World.drewN_drewN _ _ _⟩ | exact ⟨rfl, _, Eq.trans (World.drewN_drewN _ _ _) (congrArg (World.drewN _) (Nat.add_assoc _ _ _))⟩))))
                                        go_ret2
                                        exact ⟨by first | rfl | (simp; done) | (simp only [← hji13] <;> (first | rfl | simp)) | (simp [*]; done), by repeat (first | exact Drawn0.refl _ | apply Drawn0.step)⟩
                                      · rw [if_neg c28] at H
                                        exact absurd H (by simp)
                                    · rw [if_neg c27] at H
                                      exact absurd H (by simp)
                                  · rw [if_neg c26] at H
                                    exact absurd H (by simp)
                                · rw [if_neg c25] at H
                                  exact absurd H (by simp)
                              · rw [if_neg c24] at H
                                exact absurd H (by simp)
                            · rw [if_neg c23] at H
                              exact absurd H (by simp)
                          · rw [if_neg c21] at H
                            exact absurd H (by simp)
                        · rw [if_neg c20] at H
                          exact absurd H (by simp)
                      · rw [if_neg c18] at H
                        exact absurd H (by simp)
                    · rw [if_neg c17] at H
                      exact absurd H (by simp)
                  · rw [if_neg c15] at H
                    exact absurd H (by simp)
                · rw [if_neg c14] at H
                  exact absurd H (by simp)
              · rw [if_neg c12] at H
                have c12b0 : decide (0 < x4_2) = false := decide_eq_false c12
                clear c12
                by_cases c29 : 2 ≤ 3
                · rw [if_pos c29] at H
                  have c29b0 := eq_true c29
                  have c29b1 : decide (2 ≤ 3) = true := decide_eq_true c29
                  clear c29
                  by_cases c30 : 3 ≤ (a0.size : Int)
                  · rw [if_pos c30] at H
                    have c30b0 := eq_true c30
                    have c30b1 : decide (3 ≤ (a0.size : Int)) = true := decide_eq_true c30
                    clear c30
                    by_cases c31 : 4 ≤ 7
                    · rw [if_pos c31] at H
                      have c31b0 := eq_true c31
                      have c31b1 : decide (4 ≤ 7) = true := decide_eq_true c31
                      clear c31
                      by_cases c32 : 7 ≤ (a0.size : Int)
                      · rw [if_pos c32] at H
                        have c32b0 := eq_true c32
                        have c32b1 : decide (7 ≤ (a0.size : Int)) = true := decide_eq_true c32
                        clear c32
                        by_cases c33 : (a0.extract 2 3).size + (a0.extract 4 7).size ≤ 9223372036854775807
                        · rw [if_pos c33] at H
                          have c33b0 := eq_true c33
                          have c33b1 : decide ((a0.extract 2 3).size + (a0.extract 4 7).size ≤ 9223372036854775807) = true := decide_eq_true c33
                          try have c33b2 : (9223372036854775807 < (a0.extract 2 3).size + (a0.extract 4 7).size) = False := eq_false (Nat.not_lt.2 c33)
                          try (have c33b3 := c33b2; (try simp only [ByteArray.size_append] at c33b3); simp only [ByteArray.size_extract] at c33b3; (repeat rw [Nat.min_eq_left (by first | omega | (simp only [eq_self_iff_true, eq_iff_iff, iff_true] at *; omega))] at c33b3); (try simp only [Nat.sub_zero] at c33b3))
                          try (have c33b4 := c33b2; simp only [ByteArray.size_append] at c33b4)
                          try (have c33b6 := c33b2; (try simp only [ByteArray.size_append] at c33b6); simp only [ByteArray.size_extract, Nat.sub_zero] at c33b6)
                          simp only [Option.some.injEq, Prod.mk.injEq] at H
                          obtain ⟨rfl, rfl⟩ := H
                          go_wp2
                          repeat (go_quiet (fail); try go_wp2)
                          go_ret2
                          exact ⟨by first | rfl | (simp; done) | (simp [*]; done) | exact (fun l : List UInt8 => by cases l <;> rfl : ∀ l : List UInt8, Value.bool (!l.isEmpty) = Value.bool (l != [])) _, by repeat (first | exact Drawn0.refl _ | apply Drawn0.step)⟩
                        · rw [if_neg c33] at H
                          exact absurd H (by simp)
                      · rw [if_neg c32] at H
                        exact absurd H (by simp)
                    · rw [if_neg c31] at H
                      exact absurd H (by simp)
                  · rw [if_neg c30] at H
                    exact absurd H (by simp)
                · rw [if_neg c29] at H
                  exact absurd H (by simp)

end Go.Proofs.YtkhoekcjomnaeaaDoor.P
