/- Written by a program: each theorem '.calls' says that the call of a function of the given program comes to what the Lean function beside it says; no condition but what stands in it. -/
import Derived.Test.YtmkcmkkpeimldaaDoorPx0
import Derived.Test.YtmkcmkkpeimldaaDoorPx4
namespace Go.Proofs.YtmkcmkkpeimldaaDoor.P
open Go.RowKit Go.Proofs.YtmkcmkkpeimldaaDoorW.PrintWords Go.Proofs.YtmkcmkkpeimldaaDoorW.PrintLast Go.Proofs.YtmkcmkkpeimldaaDoorW.PrintMore
attribute [local go_sem] max2_int min2_int max_two min_two max_three min_three max_four min_four   -- for this text's walks alone
set_option linter.unusedVariables false
set_option linter.unusedSimpArgs false

/-! ### spec_remainder: function 48 -/
def spec_remainder.l0 : Nat → ByteArray → ByteArray → Int → Int → Option (ByteArray)
  | 0, _, _, _, _ => none
  | k + 1, x0, x1, x5, x6 => if (wrap64 (x6 + x5)) < (x1.size : Int) then (if 0 ≤ x6 then (if x6 < (x1.size : Int) then (if (bt x1 x6) = 49 then (if x6 ≤ (x1.size : Int) then (if x6 ≤ (wrap64 ((wrap64 (x6 + x5)) + 1)) then (if (wrap64 ((wrap64 (x6 + x5)) + 1)) ≤ (x1.size : Int) then ((spec_differ.f k (x1.extract (x6 : Int).toNat ((wrap64 ((wrap64 (x6 + x5)) + 1)) : Int).toNat) x0).bind fun t108 => (if (x1.extract 0 (x6 : Int).toNat).size + t108.size ≤ 9223372036854775807 then (if 0 ≤ (wrap64 ((wrap64 (x6 + x5)) + 1)) then (if ((x1.extract 0 (x6 : Int).toNat) ++ t108).size + (x1.extract ((wrap64 ((wrap64 (x6 + x5)) + 1)) : Int).toNat x1.size).size ≤ 9223372036854775807 then (spec_remainder.l0 k x0 (((x1.extract 0 (x6 : Int).toNat) ++ t108) ++ (x1.extract ((wrap64 ((wrap64 (x6 + x5)) + 1)) : Int).toNat x1.size)) x5 (wrap64 (x6 + 1))) else (none)) else (none)) else (none))) else (none)) else (none)) else (none)) else (spec_remainder.l0 k x0 x1 x5 (wrap64 (x6 + 1)))) else (none)) else (none)) else (if 0 ≤ (mx (wrap64 ((x1.size : Int) - x5)) 0) then (if (mx (wrap64 ((x1.size : Int) - x5)) 0) ≤ (x1.size : Int) then (some (x1.extract ((mx (wrap64 ((x1.size : Int) - x5)) 0) : Int).toNat x1.size)) else (none)) else (none))
def spec_remainder.f (k : Nat) (a0 : ByteArray) (a1 : ByteArray) : Option (ByteArray) := spec_remainder.l0 k a0 a1 (wrap64 ((a0.size : Int) - 1)) 0
theorem spec_remainder.mono_l : ∀ k, (∀ y0 y1 y2 y3, LeO (spec_remainder.l0 k y0 y1 y2 y3) (spec_remainder.l0 (k + 1) y0 y1 y2 y3))
  | 0 => fun _ _ _ _ r h => by simp [spec_remainder.l0] at h
  | k + 1 => by
    have ih0 := spec_remainder.mono_l k
    · intro y0 y1 y2 y3
      unfold spec_remainder.l0
      repeat' first
      | (with_reducible exact ih0 _ _ _ _)
      | (with_reducible exact spec_differ.mono _ _ _)
      | (with_reducible exact LeO.refl _)
      | (with_reducible exact LeO.none _)
      | (with_reducible refine LeO.ite ?_ ?_)
      | (with_reducible refine LeO.bind ?_ (fun _ => ?_))
      | exact ih0 _ _ _ _
      | exact spec_differ.mono _ _ _
      | exact LeO.none _
      | refine LeO.ite ?_ ?_
      | refine LeO.bind ?_ (fun _ => ?_)
theorem spec_remainder.mono : ∀ a0 a1 k, LeO (spec_remainder.f k a0 a1) (spec_remainder.f (k + 1) a0 a1) := by
  intro a0 a1 k
  have ih0 := spec_remainder.mono_l k
  unfold spec_remainder.f
  repeat' first
      | (with_reducible exact ih0 _ _ _ _)
      | (with_reducible exact spec_differ.mono _ _ _)
      | (with_reducible exact LeO.refl _)
      | (with_reducible exact LeO.none _)
      | (with_reducible refine LeO.ite ?_ ?_)
      | (with_reducible refine LeO.bind ?_ (fun _ => ?_))
      | exact ih0 _ _ _ _
      | exact spec_differ.mono _ _ _
      | exact LeO.none _
      | refine LeO.ite ?_ ?_
      | refine LeO.bind ?_ (fun _ => ?_)
set_option maxHeartbeats 8000000 in
set_option maxRecDepth 100000 in
theorem spec_remainder.calls (k : Nat) (a0 : ByteArray) (a1 : ByteArray) (r : ByteArray) (w : World) (h : spec_remainder.f k a0 a1 = some r) :
    Calls Tryd.prog 48 #[.string a0, .string a1] w fun e w' => e = .returned (.string r) ∧ Below w.heap.size w w' := by
  have HB := Aside0.mk (Below.refl w.heap.size w)
  have H : (spec_remainder.l0 k a0 a1 (wrap64 ((a0.size : Int) - 1)) 0) = some r := h
  clear h
  have H' := Aside0.mk H
  clear H
  go_enter Tryd.func48, Tryd.ntmps48
  go_wp2
  repeat (go_quiet (fail); try go_wp2)
  go_loopg [1, 6] k (fun kq v1 v6 w' => ∃ (x1_1 : ByteArray) (x6_1 : Int), v1 = .string x1_1 ∧ v6 = .int .i64 x6_1 ∧ Aside0 (spec_remainder.l0 kq a0 x1_1 (wrap64 ((a0.size : Int) - 1)) x6_1 = some r) ∧ Aside0 (kq ≤ k) ∧ Aside0 (Below w.heap.size w w'))
  case atStart => exact ⟨(a1), (0), (by first | rfl | (simp; done) | (simp [*]; done) | exact (fun l : List UInt8 => by cases l <;> rfl : ∀ l : List UInt8, Value.bool (!l.isEmpty) = Value.bool (l != [])) _), (by first | rfl | (simp; done) | (simp [*]; done) | exact (fun l : List UInt8 => by cases l <;> rfl : ∀ l : List UInt8, Value.bool (!l.isEmpty) = Value.bool (l != [])) _), H', ⟨Nat.le_refl _⟩, ⟨by repeat (first | (with_reducible first | exact HB.out | apply below_alloc | apply pw_below_drewN | apply below_drew1) | exact HB.out)⟩⟩
  case round =>
    clear H'
    try clear p2
    obtain ⟨x1_1, x6_1, rfl, rfl, HA, HK1, HB⟩ := hrel
    cases gk with
    | zero => exact absurd HA.out (by simp [spec_remainder.l0])
    | succ k1 =>
      have H := HA.out
      clear HA
      simp only [spec_remainder.l0] at H
      by_cases c3 : (wrap64 (x6_1 + (wrap64 ((a0.size : Int) - 1)))) < (x1_1.size : Int)
      · rw [if_pos c3] at H
        have c3b0 : decide ((wrap64 (x6_1 + (wrap64 ((a0.size : Int) - 1)))) < (x1_1.size : Int)) = true := decide_eq_true c3
        clear c3
        by_cases c4 : 0 ≤ x6_1
        · rw [if_pos c4] at H
          have c4b0 : decide (0 ≤ x6_1) = true := decide_eq_true c4
          clear c4
          by_cases c5 : x6_1 < (x1_1.size : Int)
          · rw [if_pos c5] at H
            have c5b0 : decide (x6_1 < (x1_1.size : Int)) = true := decide_eq_true c5
            clear c5
            by_cases c7 : (bt x1_1 x6_1) = 49
            · rw [if_pos c7] at H
              have c7b0 : ((bt x1_1 x6_1) == 49) = true := beq_iff_eq.mpr c7
              have c7b1 : ((bt x1_1 x6_1) != 49) = false := bne_eq_false_iff_eq.mpr c7
              clear c7
              have c8b0 := eq_true (of_decide_eq_true (by first | (with_reducible assumption) | assumption) : 0 ≤ x6_1)
              by_cases c9 : x6_1 ≤ (x1_1.size : Int)
              · rw [if_pos c9] at H
                have c9b0 := eq_true c9
                have c9b1 : decide (x6_1 ≤ (x1_1.size : Int)) = true := decide_eq_true c9
                clear c9
                have c10b0 := eq_true (of_decide_eq_true (by first | (with_reducible assumption) | assumption) : 0 ≤ x6_1)
                by_cases c11 : x6_1 ≤ (wrap64 ((wrap64 (x6_1 + (wrap64 ((a0.size : Int) - 1)))) + 1))
                · rw [if_pos c11] at H
                  have c11b0 := eq_true c11
                  have c11b1 : decide (x6_1 ≤ (wrap64 ((wrap64 (x6_1 + (wrap64 ((a0.size : Int) - 1)))) + 1))) = true := decide_eq_true c11
                  by_cases c12 : (wrap64 ((wrap64 (x6_1 + (wrap64 ((a0.size : Int) - 1)))) + 1)) ≤ (x1_1.size : Int)
                  · rw [if_pos c12] at H
                    have c12b0 := eq_true c12
                    have c12b1 : decide ((wrap64 ((wrap64 (x6_1 + (wrap64 ((a0.size : Int) - 1)))) + 1)) ≤ (x1_1.size : Int)) = true := decide_eq_true c12
                    replace H := Option.bind_eq_some_iff.mp H
                    obtain ⟨t108, A130, H⟩ := H
                    replace H : (if (x1_1.extract 0 (x6_1 : Int).toNat).size + t108.size ≤ 9223372036854775807 then (if 0 ≤ (wrap64 ((wrap64 (x6_1 + (wrap64 ((a0.size : Int) - 1)))) + 1)) then (if ((x1_1.extract 0 (x6_1 : Int).toNat) ++ t108).size + (x1_1.extract ((wrap64 ((wrap64 (x6_1 + (wrap64 ((a0.size : Int) - 1)))) + 1)) : Int).toNat x1_1.size).size ≤ 9223372036854775807 then (spec_remainder.l0 k1 a0 (((x1_1.extract 0 (x6_1 : Int).toNat) ++ t108) ++ (x1_1.extract ((wrap64 ((wrap64 (x6_1 + (wrap64 ((a0.size : Int) - 1)))) + 1)) : Int).toNat x1_1.size)) (wrap64 ((a0.size : Int) - 1)) (wrap64 (x6_1 + 1))) else (none)) else (none)) else (none)) = some r := H
                    have A13 := Aside0.mk A130
                    clear A130
                    by_cases c14 : (x1_1.extract 0 (x6_1 : Int).toNat).size + t108.size ≤ 9223372036854775807
                    · rw [if_pos c14] at H
                      have c14b0 := eq_true c14
                      have c14b1 : decide ((x1_1.extract 0 (x6_1 : Int).toNat).size + t108.size ≤ 9223372036854775807) = true := decide_eq_true c14
                      try have c14b2 : (9223372036854775807 < (x1_1.extract 0 (x6_1 : Int).toNat).size + t108.size) = False := eq_false (Nat.not_lt.2 c14)
                      try (have c14b3 := c14b2; (try simp only [ByteArray.size_append] at c14b3); simp only [ByteArray.size_extract] at c14b3; (repeat rw [Nat.min_eq_left (by first | omega | (simp only [eq_self_iff_true, eq_iff_iff, iff_true] at *; omega))] at c14b3); (try simp only [Nat.sub_zero] at c14b3))
                      try (have c14b4 := c14b2; simp only [ByteArray.size_append] at c14b4)
                      try (have c14b6 := c14b2; (try simp only [ByteArray.size_append] at c14b6); simp only [ByteArray.size_extract, Nat.sub_zero] at c14b6)
                      obtain ⟨ji15, hji15⟩ : ∃ j_ : Int, (wrap64 ((wrap64 (x6_1 + (wrap64 ((a0.size : Int) - 1)))) + 1)) = j_ := ⟨_, rfl⟩
                      replace H : (if 0 ≤ (ji15) then (if ((x1_1.extract 0 (x6_1 : Int).toNat) ++ t108).size + (x1_1.extract ((ji15) : Int).toNat x1_1.size).size ≤ 9223372036854775807 then (spec_remainder.l0 k1 a0 (((x1_1.extract 0 (x6_1 : Int).toNat) ++ t108) ++ (x1_1.extract ((ji15) : Int).toNat x1_1.size)) (wrap64 ((a0.size : Int) - 1)) (wrap64 (x6_1 + 1))) else (none)) else (none)) = some r := by first | (rw [hji15] at H; exact H) | (simp only [hji15] at H ⊢; exact H)
                      (try rw [hji15] at c11b0)
                      (try rw [hji15] at c11b1)
                      (try rw [hji15] at c11)
                      (try rw [hji15] at c12b0)
                      (try rw [hji15] at c12b1)
                      (try rw [hji15] at c12)
                      (try rw [hji15] at A13)
                      have hji15w : (IntKind.i64.wrap ((wrap64 (x6_1 + (wrap64 ((a0.size : Int) - 1)))) + 1)) = ji15 := (i64_w _).trans hji15
                      have hji15v : (IntKind.i64.wrap ((IntKind.i64.wrap (x6_1 + (wrap64 ((a0.size : Int) - 1)))) + 1)) = ji15 := by simp only [i64_w]; exact hji15
                      by_cases c16 : 0 ≤ (ji15)
                      · rw [if_pos c16] at H
                        have c16b0 := eq_true c16
                        have c16b1 : decide (0 ≤ (ji15)) = true := decide_eq_true c16
                        clear c16
                        have c17b0 := eq_true (of_decide_eq_true (by first | (with_reducible assumption) | assumption) : (ji15) ≤ (x1_1.size : Int))
                        by_cases c18 : ((x1_1.extract 0 (x6_1 : Int).toNat) ++ t108).size + (x1_1.extract ((ji15) : Int).toNat x1_1.size).size ≤ 9223372036854775807
                        · rw [if_pos c18] at H
                          have c18b0 := eq_true c18
                          have c18b1 : decide (((x1_1.extract 0 (x6_1 : Int).toNat) ++ t108).size + (x1_1.extract ((ji15) : Int).toNat x1_1.size).size ≤ 9223372036854775807) = true := decide_eq_true c18
                          try have c18b2 : (9223372036854775807 < ((x1_1.extract 0 (x6_1 : Int).toNat) ++ t108).size + (x1_1.extract ((ji15) : Int).toNat x1_1.size).size) = False := eq_false (Nat.not_lt.2 c18)
                          try (have c18b3 := c18b2; (try simp only [ByteArray.size_append] at c18b3); simp only [ByteArray.size_extract] at c18b3; (repeat rw [Nat.min_eq_left (by first | omega | (simp only [eq_self_iff_true, eq_iff_iff, iff_true] at *; omega))] at c18b3); (try simp only [Nat.sub_zero] at c18b3))
                          try (have c18b4 := c18b2; simp only [ByteArray.size_append] at c18b4)
                          try (have c18b6 := c18b2; (try simp only [ByteArray.size_append] at c18b6); simp only [ByteArray.size_extract, Nat.sub_zero] at c18b6)
                          have H' := Aside0.mk H
                          clear H
                          have p6 : 0 ≤ (x6_1 : Int) := of_decide_eq_true (by first | (with_reducible assumption) | assumption)
                          have q6 : x6_1 < (x1_1.size : Int) := of_decide_eq_true (by first | (with_reducible assumption) | assumption)
                          have hx6 := bt_at x1_1 x6_1
                          replace p6 := eq_true p6
                          replace q6 := eq_true q6
                          go_wp2_with (first | (go_at_call 62; (with_reducible refine (spec_differ.calls k1 (x1_1.extract (x6_1 : Int).toNat ((ji15) : Int).toNat) a0 t108 _ A13.out).mono ?_); rintro e w' ⟨rfl, ⟨nd, rfl⟩⟩; (try first | exact ⟨rfl, _, World.drewN_drewN _ _ _⟩ | exact ⟨rfl, _, Eq.trans (World.drewN_drewN _ _ _) (congrArg (World.drewN _) (Nat.add_assoc _ _ _))⟩)))
                          repeat (go_quiet (first | (go_at_call 62; (with_reducible refine (spec_differ.calls k1 (x1_1.extract (x6_1 : Int).toNat ((ji15) : Int).toNat) a0 t108 _ A13.out).mono ?_); rintro e w' ⟨rfl, ⟨nd, rfl⟩⟩; (try first | exact ⟨rfl, _, World.drewN_drewN _ _ _⟩ | exact ⟨rfl, _, Eq.trans (World.drewN_drewN _ _ _) (congrArg (World.drewN _) (Nat.add_assoc _ _ _))⟩))); try go_wp2_with (first | (go_at_call 62; (with_reducible refine (spec_differ.calls k1 (x1_1.extract (x6_1 : Int).toNat ((ji15) : Int).toNat) a0 t108 _ A13.out).mono ?_); rintro e w' ⟨rfl, ⟨nd, rfl⟩⟩; (try first | exact ⟨rfl, _, World.drewN_drewN _ _ _⟩ | exact ⟨rfl, _, Eq.trans (World.drewN_drewN _ _ _) (congrArg (World.drewN _) (Nat.add_assoc _ _ _))⟩))))
                          go_roundg k1
                          case measure => have := HK1.out; omega
                          case rel => exact ⟨(((x1_1.extract 0 (x6_1 : Int).toNat) ++ t108) ++ (x1_1.extract ((ji15) : Int).toNat x1_1.size)), (wrap64 (x6_1 + 1)), (by first | rfl | (simp; done) | (simp only [← hji15] <;> (first | rfl | simp)) | (simp [*]; done)), (by first | rfl | (simp; done) | (simp [*]; done) | exact (fun l : List UInt8 => by cases l <;> rfl : ∀ l : List UInt8, Value.bool (!l.isEmpty) = Value.bool (l != [])) _), H', ⟨by have := HK1.out; omega⟩, ⟨by repeat (first | (with_reducible first | exact HB.out | apply below_alloc | apply pw_below_drewN | apply below_drew1) | exact HB.out)⟩⟩
                        · rw [if_neg c18] at H
                          exact absurd H (by simp)
                      · rw [if_neg c16] at H
                        exact absurd H (by simp)
                    · rw [if_neg c14] at H
                      exact absurd H (by simp)
                  · rw [if_neg c12] at H
                    exact absurd H (by simp)
                · rw [if_neg c11] at H
                  exact absurd H (by simp)
              · rw [if_neg c9] at H
                exact absurd H (by simp)
            · rw [if_neg c7] at H
              have c7b0 : ((bt x1_1 x6_1) == 49) = false := beq_eq_false_iff_ne.mpr c7
              have c7b1 : ((bt x1_1 x6_1) != 49) = true := bne_iff_ne.mpr c7
              have H' := Aside0.mk H
              clear H
              have p6 : 0 ≤ (x6_1 : Int) := of_decide_eq_true (by first | (with_reducible assumption) | assumption)
              have q6 : x6_1 < (x1_1.size : Int) := of_decide_eq_true (by first | (with_reducible assumption) | assumption)
              have hx6 := bt_at x1_1 x6_1
              replace p6 := eq_true p6
              replace q6 := eq_true q6
              go_wp2
              repeat (go_quiet (fail); try go_wp2)
              go_roundg k1
              case measure => have := HK1.out; omega
              case rel => exact ⟨(x1_1), (wrap64 (x6_1 + 1)), (by first | rfl | (simp; done) | (simp [*]; done) | exact (fun l : List UInt8 => by cases l <;> rfl : ∀ l : List UInt8, Value.bool (!l.isEmpty) = Value.bool (l != [])) _), (by first | rfl | (simp; done) | (simp [*]; done) | exact (fun l : List UInt8 => by cases l <;> rfl : ∀ l : List UInt8, Value.bool (!l.isEmpty) = Value.bool (l != [])) _), H', ⟨by have := HK1.out; omega⟩, ⟨by repeat (first | (with_reducible first | exact HB.out | apply below_alloc | apply pw_below_drewN | apply below_drew1) | exact HB.out)⟩⟩
          · rw [if_neg c5] at H
            exact absurd H (by simp)
        · rw [if_neg c4] at H
          exact absurd H (by simp)
      · rw [if_neg c3] at H
        have c3b0 : decide ((wrap64 (x6_1 + (wrap64 ((a0.size : Int) - 1)))) < (x1_1.size : Int)) = false := decide_eq_false c3
        clear c3
        obtain ⟨ji19, hji19⟩ : ∃ j_ : Int, (mx (wrap64 ((x1_1.size : Int) - (wrap64 ((a0.size : Int) - 1)))) 0) = j_ := ⟨_, rfl⟩
        replace H : (if 0 ≤ (ji19) then (if (ji19) ≤ (x1_1.size : Int) then (some (x1_1.extract ((ji19) : Int).toNat x1_1.size)) else (none)) else (none)) = some r := by first | (rw [hji19] at H; exact H) | (simp only [hji19] at H ⊢; exact H)
        have hji19_ : (if (wrap64 ((x1_1.size : Int) - (wrap64 ((a0.size : Int) - 1)))) < 0 then 0 else (wrap64 ((x1_1.size : Int) - (wrap64 ((a0.size : Int) - 1))))) = ji19 := hji19
        by_cases c20 : 0 ≤ (ji19)
        · rw [if_pos c20] at H
          have c20b0 := eq_true c20
          have c20b1 : decide (0 ≤ (ji19)) = true := decide_eq_true c20
          clear c20
          by_cases c21 : (ji19) ≤ (x1_1.size : Int)
          · rw [if_pos c21] at H
            have c21b0 := eq_true c21
            have c21b1 : decide ((ji19) ≤ (x1_1.size : Int)) = true := decide_eq_true c21
            clear c21
            obtain rfl := Option.some.inj H
            go_wp2
            repeat (go_quiet (fail); try go_wp2)
            go_ret
            exact ⟨by first | rfl | (simp [errW_none, errW_some] <;> rfl) | (simp only [← hji19]; first | rfl | (simp [errW_none, errW_some] <;> rfl)) | (simp [*, errW_none, errW_some] <;> rfl), by repeat (first | (with_reducible first | exact HB.out | apply below_alloc | apply pw_below_drewN | apply below_drew1) | exact HB.out)⟩
          · rw [if_neg c21] at H
            exact absurd H (by simp)
        · rw [if_neg c20] at H
          exact absurd H (by simp)

end Go.Proofs.YtmkcmkkpeimldaaDoor.P
