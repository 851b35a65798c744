/- Written by a program: each theorem '.calls' says that the call of a function of the given program comes to what the Lean function beside it says; no condition but what stands in it. -/
import Derived.Test.YtkfbmpllbcladaaPx0
import Derived.Test.YtkfbmpllbcladaaPx31
namespace Go.Proofs.Ytkfbmpllbcladaa.P
open Go.RowKit Go.Proofs.YtkfbmpllbcladaaW.PrintWords Go.Proofs.YtkfbmpllbcladaaW.PrintLast Go.Proofs.YtkfbmpllbcladaaW.PrintMore
attribute [local go_sem] max2_int min2_int max_two min_two max_three min_three max_four min_four   -- for this text's walks alone
set_option linter.unusedVariables false
set_option linter.unusedSimpArgs false

/-! ### spec_unpack: function 53 -/
mutual
def spec_unpack.l0 : Nat → List Int → List (S52) → Int → Option ((List (S52)) × Bool)
  | 0, _, _, _ => none
  | k + 1, x0, x4, x5 => if x5 < (x0.length : Int) then (if 0 ≤ x5 then (if x5 ≤ (x0.length : Int) then ((spec_readGroups.f k (x0.drop (x5 : Int).toNat)).bind fun bt551 => (if bt551.2 = 0 then (spec_unpack.j1 k x0 x4 x5 bt551.1 bt551.2 true) else (spec_unpack.j1 k x0 x4 x5 bt551.1 bt551.2 (decide (bt551.1 > 300))))) else (none)) else (none)) else (some (x4, decide ((x4.length : Int) ≤ 5)))
def spec_unpack.j1 : Nat → List Int → List (S52) → Int → Int → Int → Bool → Option ((List (S52)) × Bool)
  | 0, _, _, _, _, _, _ => none
  | k + 1, x0, x4, x5, x6, x7, x27 => if x27 = true then (some (([] : List (S52)), false)) else (if 0 ≤ (wrap64 (x5 + x7)) then (if (wrap64 (x5 + x7)) ≤ (x0.length : Int) then ((spec_readGroups.f k (x0.drop ((wrap64 (x5 + x7)) : Int).toNat)).bind fun bt554 => (if bt554.2 = 0 then (some (([] : List (S52)), false)) else (if bt554.1 > (wrap64 ((wrap64 ((wrap64 ((x0.length : Int) - x5)) - x7)) - bt554.2)) then (some (([] : List (S52)), false)) else (if bt554.1 > 16 then (some (([] : List (S52)), false)) else ((some (([] : List Int) : List Int)).bind fun y556 => (if 0 ≤ (wrap64 ((wrap64 (x5 + x7)) + bt554.2)) then (if (wrap64 ((wrap64 (x5 + x7)) + bt554.2)) ≤ (wrap64 ((wrap64 ((wrap64 (x5 + x7)) + bt554.2)) + bt554.1)) then (if (wrap64 ((wrap64 ((wrap64 (x5 + x7)) + bt554.2)) + bt554.1)) ≤ (x0.length : Int) then (if y556.length + ((x0.take ((wrap64 ((wrap64 ((wrap64 (x5 + x7)) + bt554.2)) + bt554.1)) : Int).toNat).drop ((wrap64 ((wrap64 (x5 + x7)) + bt554.2)) : Int).toNat).length < 17592186044416 then (if x4.length < 4398046511104 then (spec_unpack.l0 k x0 (x4 ++ [(⟨x6, (y556 ++ ((x0.take ((wrap64 ((wrap64 ((wrap64 (x5 + x7)) + bt554.2)) + bt554.1)) : Int).toNat).drop ((wrap64 ((wrap64 (x5 + x7)) + bt554.2)) : Int).toNat))⟩ : S52)]) (wrap64 ((wrap64 ((wrap64 (x5 + x7)) + bt554.2)) + bt554.1))) else (none)) else (none)) else (none)) else (none)) else (none))))))) else (none)) else (none))
end
def spec_unpack.f (k : Nat) (l0 : List Int) : Option ((List (S52)) × Bool) := spec_unpack.l0 k l0 (([] : List (S52))) 0
theorem spec_unpack.mono_l : ∀ k, (∀ y0 y1 y2, LeO (spec_unpack.l0 k y0 y1 y2) (spec_unpack.l0 (k + 1) y0 y1 y2)) ∧ (∀ y0 y1 y2 y3 y4 y5, LeO (spec_unpack.j1 k y0 y1 y2 y3 y4 y5) (spec_unpack.j1 (k + 1) y0 y1 y2 y3 y4 y5))
  | 0 => ⟨fun _ _ _ r h => by simp [spec_unpack.l0] at h, fun _ _ _ _ _ _ r h => by simp [spec_unpack.j1] at h⟩
  | k + 1 => by
    obtain ⟨ih0, ih1⟩ := spec_unpack.mono_l k
    refine ⟨?_, ?_⟩
    · intro y0 y1 y2
      unfold spec_unpack.l0
      repeat' first
      | (with_reducible exact ih0 _ _ _)
      | (with_reducible exact ih1 _ _ _ _ _ _)
      | (with_reducible exact spec_readGroups.mono _ _)
      | (with_reducible exact LeO.refl _)
      | (with_reducible exact LeO.none _)
      | (with_reducible refine LeO.ite ?_ ?_)
      | (with_reducible refine LeO.bind ?_ (fun _ => ?_))
      | exact ih0 _ _ _
      | exact ih1 _ _ _ _ _ _
      | exact spec_readGroups.mono _ _
      | exact LeO.none _
      | refine LeO.ite ?_ ?_
      | refine LeO.bind ?_ (fun _ => ?_)
    · intro y0 y1 y2 y3 y4 y5
      unfold spec_unpack.j1
      repeat' first
      | (with_reducible exact ih0 _ _ _)
      | (with_reducible exact ih1 _ _ _ _ _ _)
      | (with_reducible exact spec_readGroups.mono _ _)
      | (with_reducible exact LeO.refl _)
      | (with_reducible exact LeO.none _)
      | (with_reducible refine LeO.ite ?_ ?_)
      | (with_reducible refine LeO.bind ?_ (fun _ => ?_))
      | exact ih0 _ _ _
      | exact ih1 _ _ _ _ _ _
      | exact spec_readGroups.mono _ _
      | exact LeO.none _
      | refine LeO.ite ?_ ?_
      | refine LeO.bind ?_ (fun _ => ?_)
theorem spec_unpack.mono : ∀ a0 k, LeO (spec_unpack.f k a0) (spec_unpack.f (k + 1) a0) := by
  intro a0 k
  obtain ⟨ih0, ih1⟩ := spec_unpack.mono_l k
  unfold spec_unpack.f
  repeat' first
      | (with_reducible exact ih0 _ _ _)
      | (with_reducible exact ih1 _ _ _ _ _ _)
      | (with_reducible exact spec_readGroups.mono _ _)
      | (with_reducible exact LeO.refl _)
      | (with_reducible exact LeO.none _)
      | (with_reducible refine LeO.ite ?_ ?_)
      | (with_reducible refine LeO.bind ?_ (fun _ => ?_))
      | exact ih0 _ _ _
      | exact ih1 _ _ _ _ _ _
      | exact spec_readGroups.mono _ _
      | exact LeO.none _
      | refine LeO.ite ?_ ?_
      | refine LeO.bind ?_ (fun _ => ?_)
set_option maxHeartbeats 8000000 in
set_option maxRecDepth 100000 in
theorem spec_unpack.calls (k : Nat) (A0 : Option Addr) (c0 : Nat) (l0 : List Int) (r1 : List (S52)) (r2 : Bool) (w : World) (hr0 : Kd.C (Kd.int .i64) w A0 l0.length l0) (hc0 : l0.length ≤ c0) (h : spec_unpack.f k l0 = some (r1, r2)) :
    Calls Try.prog 53 #[.slice A0 l0.length c0] w fun e w' => ∃ v0_ : Value, e = .returned (.tuple #[v0_, .bool r2]) ∧ Kd.S k52 52 w' w.heap.size (fun _ => True) v0_ r1 ∧ Below w.heap.size w w' := by
  have hu52 := Try.underlying52
  have HR0 := Aside0.mk hr0
  have HC0 := Aside0.mk hc0
  clear hr0 hc0
  have HB := Aside0.mk (Below.refl w.heap.size w)
  have H : (spec_unpack.l0 k l0 (([] : List (S52))) 0) = some (r1, r2) := h
  clear h
  obtain ⟨y547, hy547⟩ : ∃ y_ : List (S52), y_ = (([] : List (S52))) := ⟨_, rfl⟩
  replace H : (spec_unpack.l0 k l0 y547 0) = some (r1, r2) := by first | (rw [hy547]; with_reducible exact H) | (have H2_ := (Option.bind_some _ _).symm.trans H; rw [hy547]; with_reducible exact H2_) | (have H2_ := (Option.bind_some _ _).symm.trans H; with_reducible exact H2_) | with_reducible exact H | (rw [hy547]; exact H) | exact H
  have Ny547 := Aside0.mk hy547
  clear hy547
  have H' := Aside0.mk H
  clear H
  go_enter Try.func53, Try.ntmps53
  go_wp2_with (first | ((with_reducible refine gate_dst (N := 10) rfl ?_); (try (refine gate_guard (by rfl) ?_; dsimp only)); refine Kd.S_lit k52 _ 52 ?hg (N := 10) ?hd (xs := ([] : List (S52))) (inner := []) (ok := fun _ => True) (okp := fun _ => True) ?hr ?hp (fun _ hk => hk) trivial (Below.refl _ _) (Nat.le_refl _) (by simp) ?_; (case hd => rfl); (case hg => rfl); (case hr => first | (go_simp; done) | (go_simp; rfl)); (case hp => exact (Reps.none _ _)); intro v548 w2 ho3 hb hg_ hnew_; clear hg_ hnew_; (first | rw [← Ny547.out] at ho3 | (simp only [Int.reduceToNat] at ho3; rw [← Ny547.out] at ho3)); have n0_ := Aside0.mk (Kd.S_lower ho3 (below_size (by repeat (first | (with_reducible first | exact HB.out | apply below_alloc | apply pw_below_drewN | apply below_drew1) | exact HB.out)))); have n1_ := Aside0.mk (below_step (by repeat (first | (with_reducible first | exact HB.out | apply below_alloc | apply pw_below_drewN | apply below_drew1) | exact HB.out)) hb); clear HB; have HO549 := n0_; have HB := n1_; clear n0_ n1_; clear hb ho3))
  go_loopg [4, 5] k (fun kq v4 v5 w' => ∃ (x4_1 : List (S52)) (x5_1 : Int), v5 = .int .i64 x5_1 ∧ Aside0 (spec_unpack.l0 kq l0 x4_1 x5_1 = some (r1, r2)) ∧ Aside0 (kq ≤ k) ∧ Aside0 (Kd.S k52 52 w' w.heap.size (fun _ => True) v4 x4_1) ∧ Aside0 (Below w.heap.size w w'))
  case atStart => exact ⟨(y547), (0), (by first | rfl | (simp; done) | (simp [*]; done)), H', ⟨Nat.le_refl _⟩, ⟨by (with_reducible repeat (first | apply Kd.S_alloc | apply Kd.S_drewN | apply Kd.S_drew)); exact HO549.out⟩, ⟨by repeat (first | (with_reducible first | exact HB.out | apply below_alloc | apply pw_below_drewN | apply below_drew1) | exact HB.out)⟩⟩
  case round =>
    clear H'
    try clear p2
    obtain ⟨x4_1, x5_1, rfl, HA, HK1, HO_4, HB⟩ := hrel
    cases gk with
    | zero => exact absurd HA.out (by simp [spec_unpack.l0])
    | succ k1 =>
      have H := HA.out
      clear HA
      simp only [spec_unpack.l0] at H
      by_cases c4 : x5_1 < (l0.length : Int)
      · rw [if_pos c4] at H
        have c4b0 : decide (x5_1 < (l0.length : Int)) = true := decide_eq_true c4
        clear c4
        by_cases c5 : 0 ≤ x5_1
        · rw [if_pos c5] at H
          have c5b0 := eq_true c5
          have c5b1 : decide (0 ≤ x5_1) = true := decide_eq_true c5
          clear c5
          by_cases c6 : x5_1 ≤ (l0.length : Int)
          · rw [if_pos c6] at H
            have c6b0 := eq_true c6
            have c6b1 : decide (x5_1 ≤ (l0.length : Int)) = true := decide_eq_true c6
            clear c6
            replace H := Option.bind_eq_some_iff.mp H
            obtain ⟨⟨t551, t552⟩, A70, H⟩ := H
            replace H : (if t552 = 0 then (spec_unpack.j1 k1 l0 x4_1 x5_1 t551 t552 true) else (spec_unpack.j1 k1 l0 x4_1 x5_1 t551 t552 (decide (t551 > 300)))) = some (r1, r2) := H
            have A7 := Aside0.mk A70
            clear A70
            have HC8 := Aside0.mk H
            clear H
            obtain ⟨i09, hi09, _, hsz9, _⟩ := info_parts info3
            obtain ⟨A9, hcut9, hA9, hC9⟩ := print_drop_of (P := Try.prog) (Value.int .i64) 0 23 3 .i64 Try.underlying23 hi09 hsz9 A0 c0 l0 x5_1 (of_decide_eq_true (by first | (with_reducible assumption) | assumption)) (of_decide_eq_true (by first | (with_reducible assumption) | assumption)) HC0.out
            have HR550 := Aside0.mk (Kd.C_of_reads (h1 := fun _ => rfl) (hA9 _ (Kd.reads_of_C HR0.out)))
            have HC550 := Aside0.mk hC9
            clear hA9 hC9 hi09 hsz9
            go_upto_region 5 with (first | ((with_reducible refine gate_callee (f := 66) rfl ?_); refine goesL_ (some 19) rfl rfl Try.func66 (by kernel_rfl) rfl #[.slice A9 (l0.drop (x5_1 : Int).toNat).length (c0 - x5_1.toNat)] rfl (by (try simp only [List.map_toArray, List.map_cons, List.map_nil]); first | done | (rw [show (l0.drop (x5_1 : Int).toNat).length = (l0.length - x5_1.toNat) from List.length_drop] <;> rfl) | rfl | (simp only [List.length_drop, List.length_take]; rfl)) ?_; (with_reducible refine (spec_readGroups.calls k1 _ _ (l0.drop (x5_1 : Int).toNat) t551 t552 _ ?side1 ?side2 A7.out).mono ?_); (case side1 => repeat (first | exact (Kd.C_below HR550.out HB.out) | (with_reducible refine Kd.C_alloc ?_ _) | (with_reducible refine Kd.C_drewN ?_ _) | (with_reducible refine Kd.C_drew ?_))); (case side2 => exact HC550.out); rintro e w' ⟨rfl, ⟨nd, rfl⟩⟩; refine ⟨_, rfl, ?_⟩))
            (try simp only [Act.put, List.setIfInBounds_toArray, List.set_cons_zero, List.set_cons_succ])
            go_cut [27] (fun v27 wc => ∃ (kq : Nat) (x27_7 : Bool), v27 = .bool x27_7 ∧ Aside0 (spec_unpack.j1 kq l0 x4_1 x5_1 t551 t552 x27_7 = some (r1, r2)) ∧ Aside0 (kq ≤ k1) ∧ Aside0 (Kd.S k52 52 wc w.heap.size (fun _ => True) u4 x4_1) ∧ Aside0 (Below w.heap.size w wc))
            case first =>
              have H := HC8.out
              clear HC8
              by_cases c10 : t552 = 0
              · rw [if_pos c10] at H
                have c10b0 : (t552 == 0) = true := beq_iff_eq.mpr c10
                have c10b1 : (t552 != 0) = false := bne_eq_false_iff_eq.mpr c10
                clear c10
                (first | rw [c10b0] | (simp only [i64_w, i32_w]; rw [c10b0]) | skip)
                have H' := Aside0.mk H
                clear H
                go_wp2
                go_meet
                case rel => exact ⟨_, (true), (by first | rfl | (simp; done) | (simp [*]; done)), H', ⟨by have := HK1.out; first | omega | exact Nat.le_refl _⟩, ⟨by (with_reducible repeat (first | apply Kd.S_alloc | apply Kd.S_drewN | apply Kd.S_drew)); exact HO_4.out⟩, ⟨by repeat (first | (with_reducible first | exact HB.out | apply below_alloc | apply pw_below_drewN | apply below_drew1) | exact HB.out)⟩⟩
              · rw [if_neg c10] at H
                have c10b0 : (t552 == 0) = false := beq_eq_false_iff_ne.mpr c10
                have c10b1 : (t552 != 0) = true := bne_iff_ne.mpr c10
                (first | rw [c10b0] | (simp only [i64_w, i32_w]; rw [c10b0]) | skip)
                have H' := Aside0.mk H
                clear H
                go_wp2
                go_meet
                case rel => exact ⟨_, (decide (t551 > 300)), (by first | rfl | (simp; done) | (simp [*]; done)), H', ⟨by have := HK1.out; first | omega | exact Nat.le_refl _⟩, ⟨by (with_reducible repeat (first | apply Kd.S_alloc | apply Kd.S_drewN | apply Kd.S_drew)); exact HO_4.out⟩, ⟨by repeat (first | (with_reducible first | exact HB.out | apply below_alloc | apply pw_below_drewN | apply below_drew1) | exact HB.out)⟩⟩
            case rest =>
              clear HC8
              try clear c1
              try clear p2
              try clear c4
              try clear c4b0
              try clear c5
              try clear c5b0
              try clear c5b1
              try clear c6
              try clear c6b0
              try clear c6b1
              try clear c10
              try clear c10b0
              try clear c10b1
              try clear p2
              obtain ⟨kq, x27_7, rfl, HA, HJ7, HO_4, HB⟩ := hcut
              cases kq with
              | zero => exact absurd HA.out (by simp [spec_unpack.j1])
              | succ kj7 =>
                have H := HA.out
                clear HA
                simp only [spec_unpack.j1] at H
                by_cases c11 : x27_7 = true
                · subst c11
                  have H1 : (some (([] : List (S52)), false)) = some (r1, r2) := by rw [if_pos rfl] at H; exact H
                  clear H
                  have H := H1
                  clear H1
                  simp only [Option.some.injEq, Prod.mk.injEq] at H
                  obtain ⟨rfl, rfl⟩ := H
                  go_wp2
                  go_ret2
                  exact ⟨_, by first | rfl | (simp [errW_none, errW_some] <;> rfl) | (simp [*, errW_none, errW_some] <;> rfl), by first | exact Kd.S_nil _ _ _ _ _ | exact Kd.N_nil _ _ _ _ _ | exact Kd.V_nil _ _ _ _ _ | exact Kd.Q_nil _ _ _ _ _ | exact Kd.R_nil _ _ _ _ _, by repeat (first | (with_reducible first | exact HB.out | apply below_alloc | apply pw_below_drewN | apply below_drew1) | exact HB.out)⟩
                · replace c11 := Bool.eq_false_iff.mpr c11
                  subst c11
                  have H1 : (if 0 ≤ (wrap64 (x5_1 + t552)) then (if (wrap64 (x5_1 + t552)) ≤ (l0.length : Int) then ((spec_readGroups.f kj7 (l0.drop ((wrap64 (x5_1 + t552)) : Int).toNat)).bind fun bt554 => (if bt554.2 = 0 then (some (([] : List (S52)), false)) else (if bt554.1 > (wrap64 ((wrap64 ((wrap64 ((l0.length : Int) - x5_1)) - t552)) - bt554.2)) then (some (([] : List (S52)), false)) else (if bt554.1 > 16 then (some (([] : List (S52)), false)) else ((some (([] : List Int) : List Int)).bind fun y556 => (if 0 ≤ (wrap64 ((wrap64 (x5_1 + t552)) + bt554.2)) then (if (wrap64 ((wrap64 (x5_1 + t552)) + bt554.2)) ≤ (wrap64 ((wrap64 ((wrap64 (x5_1 + t552)) + bt554.2)) + bt554.1)) then (if (wrap64 ((wrap64 ((wrap64 (x5_1 + t552)) + bt554.2)) + bt554.1)) ≤ (l0.length : Int) then (if y556.length + ((l0.take ((wrap64 ((wrap64 ((wrap64 (x5_1 + t552)) + bt554.2)) + bt554.1)) : Int).toNat).drop ((wrap64 ((wrap64 (x5_1 + t552)) + bt554.2)) : Int).toNat).length < 17592186044416 then (if x4_1.length < 4398046511104 then (spec_unpack.l0 kj7 l0 (x4_1 ++ [(⟨t551, (y556 ++ ((l0.take ((wrap64 ((wrap64 ((wrap64 (x5_1 + t552)) + bt554.2)) + bt554.1)) : Int).toNat).drop ((wrap64 ((wrap64 (x5_1 + t552)) + bt554.2)) : Int).toNat))⟩ : S52)]) (wrap64 ((wrap64 ((wrap64 (x5_1 + t552)) + bt554.2)) + bt554.1))) else (none)) else (none)) else (none)) else (none)) else (none))))))) else (none)) else (none)) = some (r1, r2) := by rw [if_neg (show ¬ (false = true) by decide)] at H; exact H
                  clear H
                  have H := H1
                  clear H1
                  obtain ⟨ji12, hji12⟩ : ∃ j_ : Int, (wrap64 (x5_1 + t552)) = j_ := ⟨_, rfl⟩
                  replace H : (if 0 ≤ (ji12) then (if (ji12) ≤ (l0.length : Int) then ((spec_readGroups.f kj7 (l0.drop ((ji12) : Int).toNat)).bind fun bt554 => (if bt554.2 = 0 then (some (([] : List (S52)), false)) else (if bt554.1 > (wrap64 ((wrap64 ((wrap64 ((l0.length : Int) - x5_1)) - t552)) - bt554.2)) then (some (([] : List (S52)), false)) else (if bt554.1 > 16 then (some (([] : List (S52)), false)) else ((some (([] : List Int) : List Int)).bind fun y556 => (if 0 ≤ (wrap64 ((ji12) + bt554.2)) then (if (wrap64 ((ji12) + bt554.2)) ≤ (wrap64 ((wrap64 ((ji12) + bt554.2)) + bt554.1)) then (if (wrap64 ((wrap64 ((ji12) + bt554.2)) + bt554.1)) ≤ (l0.length : Int) then (if y556.length + ((l0.take ((wrap64 ((wrap64 ((ji12) + bt554.2)) + bt554.1)) : Int).toNat).drop ((wrap64 ((ji12) + bt554.2)) : Int).toNat).length < 17592186044416 then (if x4_1.length < 4398046511104 then (spec_unpack.l0 kj7 l0 (x4_1 ++ [(⟨t551, (y556 ++ ((l0.take ((wrap64 ((wrap64 ((ji12) + bt554.2)) + bt554.1)) : Int).toNat).drop ((wrap64 ((ji12) + bt554.2)) : Int).toNat))⟩ : S52)]) (wrap64 ((wrap64 ((ji12) + bt554.2)) + bt554.1))) else (none)) else (none)) else (none)) else (none)) else (none))))))) else (none)) else (none)) = some (r1, r2) := by first | (rw [hji12] at H; exact H) | (simp only [hji12] at H ⊢; exact H)
                  have hji12w : (IntKind.i64.wrap (x5_1 + t552)) = ji12 := (i64_w _).trans hji12
                  by_cases c13 : 0 ≤ (ji12)
                  · rw [if_pos c13] at H
                    have c13b0 := eq_true c13
                    have c13b1 : decide (0 ≤ (ji12)) = true := decide_eq_true c13
                    clear c13
                    by_cases c14 : (ji12) ≤ (l0.length : Int)
                    · rw [if_pos c14] at H
                      have c14b0 := eq_true c14
                      have c14b1 : decide ((ji12) ≤ (l0.length : Int)) = true := decide_eq_true c14
                      clear c14
                      replace H := Option.bind_eq_some_iff.mp H
                      obtain ⟨⟨t554, t555⟩, A150, H⟩ := H
                      replace H : (if t555 = 0 then (some (([] : List (S52)), false)) else (if t554 > (wrap64 ((wrap64 ((wrap64 ((l0.length : Int) - x5_1)) - t552)) - t555)) then (some (([] : List (S52)), false)) else (if t554 > 16 then (some (([] : List (S52)), false)) else ((some (([] : List Int) : List Int)).bind fun y556 => (if 0 ≤ (wrap64 ((ji12) + t555)) then (if (wrap64 ((ji12) + t555)) ≤ (wrap64 ((wrap64 ((ji12) + t555)) + t554)) then (if (wrap64 ((wrap64 ((ji12) + t555)) + t554)) ≤ (l0.length : Int) then (if y556.length + ((l0.take ((wrap64 ((wrap64 ((ji12) + t555)) + t554)) : Int).toNat).drop ((wrap64 ((ji12) + t555)) : Int).toNat).length < 17592186044416 then (if x4_1.length < 4398046511104 then (spec_unpack.l0 kj7 l0 (x4_1 ++ [(⟨t551, (y556 ++ ((l0.take ((wrap64 ((wrap64 ((ji12) + t555)) + t554)) : Int).toNat).drop ((wrap64 ((ji12) + t555)) : Int).toNat))⟩ : S52)]) (wrap64 ((wrap64 ((ji12) + t555)) + t554))) else (none)) else (none)) else (none)) else (none)) else (none)))))) = some (r1, r2) := H
                      have A15 := Aside0.mk A150
                      clear A150
                      by_cases c16 : t555 = 0
                      · rw [if_pos c16] at H
                        have c16b0 : (t555 == 0) = true := beq_iff_eq.mpr c16
                        have c16b1 : (t555 != 0) = false := bne_eq_false_iff_eq.mpr c16
                        clear c16
                        simp only [Option.some.injEq, Prod.mk.injEq] at H
                        obtain ⟨rfl, rfl⟩ := H
                        obtain ⟨i017, hi017, _, hsz17, _⟩ := info_parts info3
                        obtain ⟨A17, hcut17, hA17, hC17⟩ := print_drop_of (P := Try.prog) (Value.int .i64) 0 23 3 .i64 Try.underlying23 hi017 hsz17 A0 c0 l0 (ji12) (of_decide_eq_true (by first | (with_reducible assumption) | assumption)) (of_decide_eq_true (by first | (with_reducible assumption) | assumption)) HC0.out
                        have HR553 := Aside0.mk (Kd.C_of_reads (h1 := fun _ => rfl) (hA17 _ (Kd.reads_of_C HR0.out)))
                        have HC553 := Aside0.mk hC17
                        clear hA17 hC17 hi017 hsz17
                        go_wp2_with (first | ((with_reducible refine gate_callee (f := 66) rfl ?_); refine goesL_ (some 34) rfl rfl Try.func66 (by kernel_rfl) rfl #[.slice A17 (l0.drop ((ji12) : Int).toNat).length (c0 - (ji12).toNat)] rfl (by (try simp only [List.map_toArray, List.map_cons, List.map_nil]); first | done | (rw [show (l0.drop ((ji12) : Int).toNat).length = (l0.length - (ji12).toNat) from List.length_drop] <;> rfl) | (simp only [hji12]; rfl) | rfl | (simp only [List.length_drop, List.length_take]; rfl)) ?_; (with_reducible refine (spec_readGroups.calls kj7 _ _ (l0.drop ((ji12) : Int).toNat) t554 t555 _ ?side1 ?side2 A15.out).mono ?_); (case side1 => repeat (first | exact (Kd.C_below HR553.out HB.out) | (with_reducible refine Kd.C_alloc ?_ _) | (with_reducible refine Kd.C_drewN ?_ _) | (with_reducible refine Kd.C_drew ?_))); (case side2 => exact HC553.out); rintro e w' ⟨rfl, ⟨nd, rfl⟩⟩; refine ⟨_, rfl, ?_⟩))
                        go_ret2
                        exact ⟨_, by first | rfl | (simp [errW_none, errW_some] <;> rfl) | (simp only [← hji12]; first | rfl | (simp [errW_none, errW_some] <;> rfl)) | (simp [*, errW_none, errW_some] <;> rfl), by first | exact Kd.S_nil _ _ _ _ _ | exact Kd.N_nil _ _ _ _ _ | exact Kd.V_nil _ _ _ _ _ | exact Kd.Q_nil _ _ _ _ _ | exact Kd.R_nil _ _ _ _ _, by repeat (first | (with_reducible first | exact HB.out | apply below_alloc | apply pw_below_drewN | apply below_drew1) | exact HB.out)⟩
                      · rw [if_neg c16] at H
                        have c16b0 : (t555 == 0) = false := beq_eq_false_iff_ne.mpr c16
                        have c16b1 : (t555 != 0) = true := bne_iff_ne.mpr c16
                        by_cases c18 : t554 > (wrap64 ((wrap64 ((wrap64 ((l0.length : Int) - x5_1)) - t552)) - t555))
                        · rw [if_pos c18] at H
                          have c18b0 : decide ((wrap64 ((wrap64 ((wrap64 ((l0.length : Int) - x5_1)) - t552)) - t555)) < t554) = true := decide_eq_true c18
                          clear c18
                          simp only [Option.some.injEq, Prod.mk.injEq] at H
                          obtain ⟨rfl, rfl⟩ := H
                          obtain ⟨i019, hi019, _, hsz19, _⟩ := info_parts info3
                          obtain ⟨A19, hcut19, hA19, hC19⟩ := print_drop_of (P := Try.prog) (Value.int .i64) 0 23 3 .i64 Try.underlying23 hi019 hsz19 A0 c0 l0 (ji12) (of_decide_eq_true (by first | (with_reducible assumption) | assumption)) (of_decide_eq_true (by first | (with_reducible assumption) | assumption)) HC0.out
                          have HR553 := Aside0.mk (Kd.C_of_reads (h1 := fun _ => rfl) (hA19 _ (Kd.reads_of_C HR0.out)))
                          have HC553 := Aside0.mk hC19
                          clear hA19 hC19 hi019 hsz19
                          go_wp2_with (first | ((with_reducible refine gate_callee (f := 66) rfl ?_); refine goesL_ (some 34) rfl rfl Try.func66 (by kernel_rfl) rfl #[.slice A19 (l0.drop ((ji12) : Int).toNat).length (c0 - (ji12).toNat)] rfl (by (try simp only [List.map_toArray, List.map_cons, List.map_nil]); first | done | (rw [show (l0.drop ((ji12) : Int).toNat).length = (l0.length - (ji12).toNat) from List.length_drop] <;> rfl) | (simp only [hji12]; rfl) | rfl | (simp only [List.length_drop, List.length_take]; rfl)) ?_; (with_reducible refine (spec_readGroups.calls kj7 _ _ (l0.drop ((ji12) : Int).toNat) t554 t555 _ ?side1 ?side2 A15.out).mono ?_); (case side1 => repeat (first | exact (Kd.C_below HR553.out HB.out) | (with_reducible refine Kd.C_alloc ?_ _) | (with_reducible refine Kd.C_drewN ?_ _) | (with_reducible refine Kd.C_drew ?_))); (case side2 => exact HC553.out); rintro e w' ⟨rfl, ⟨nd, rfl⟩⟩; refine ⟨_, rfl, ?_⟩))
                          go_ret2
                          exact ⟨_, by first | rfl | (simp [errW_none, errW_some] <;> rfl) | (simp only [← hji12]; first | rfl | (simp [errW_none, errW_some] <;> rfl)) | (simp [*, errW_none, errW_some] <;> rfl), by first | exact Kd.S_nil _ _ _ _ _ | exact Kd.N_nil _ _ _ _ _ | exact Kd.V_nil _ _ _ _ _ | exact Kd.Q_nil _ _ _ _ _ | exact Kd.R_nil _ _ _ _ _, by repeat (first | (with_reducible first | exact HB.out | apply below_alloc | apply pw_below_drewN | apply below_drew1) | exact HB.out)⟩
                        · rw [if_neg c18] at H
                          have c18b0 : decide ((wrap64 ((wrap64 ((wrap64 ((l0.length : Int) - x5_1)) - t552)) - t555)) < t554) = false := decide_eq_false c18
                          clear c18
                          by_cases c20 : t554 > 16
                          · rw [if_pos c20] at H
                            have c20b0 : decide (16 < t554) = true := decide_eq_true c20
                            clear c20
                            simp only [Option.some.injEq, Prod.mk.injEq] at H
                            obtain ⟨rfl, rfl⟩ := H
                            obtain ⟨i021, hi021, _, hsz21, _⟩ := info_parts info3
                            obtain ⟨A21, hcut21, hA21, hC21⟩ := print_drop_of (P := Try.prog) (Value.int .i64) 0 23 3 .i64 Try.underlying23 hi021 hsz21 A0 c0 l0 (ji12) (of_decide_eq_true (by first | (with_reducible assumption) | assumption)) (of_decide_eq_true (by first | (with_reducible assumption) | assumption)) HC0.out
                            have HR553 := Aside0.mk (Kd.C_of_reads (h1 := fun _ => rfl) (hA21 _ (Kd.reads_of_C HR0.out)))
                            have HC553 := Aside0.mk hC21
                            clear hA21 hC21 hi021 hsz21
                            go_wp2_with (first | ((with_reducible refine gate_callee (f := 66) rfl ?_); refine goesL_ (some 34) rfl rfl Try.func66 (by kernel_rfl) rfl #[.slice A21 (l0.drop ((ji12) : Int).toNat).length (c0 - (ji12).toNat)] rfl (by (try simp only [List.map_toArray, List.map_cons, List.map_nil]); first | done | (rw [show (l0.drop ((ji12) : Int).toNat).length = (l0.length - (ji12).toNat) from List.length_drop] <;> rfl) | (simp only [hji12]; rfl) | rfl | (simp only [List.length_drop, List.length_take]; rfl)) ?_; (with_reducible refine (spec_readGroups.calls kj7 _ _ (l0.drop ((ji12) : Int).toNat) t554 t555 _ ?side1 ?side2 A15.out).mono ?_); (case side1 => repeat (first | exact (Kd.C_below HR553.out HB.out) | (with_reducible refine Kd.C_alloc ?_ _) | (with_reducible refine Kd.C_drewN ?_ _) | (with_reducible refine Kd.C_drew ?_))); (case side2 => exact HC553.out); rintro e w' ⟨rfl, ⟨nd, rfl⟩⟩; refine ⟨_, rfl, ?_⟩))
                            go_ret2
                            exact ⟨_, by first | rfl | (simp [errW_none, errW_some] <;> rfl) | (simp only [← hji12]; first | rfl | (simp [errW_none, errW_some] <;> rfl)) | (simp [*, errW_none, errW_some] <;> rfl), by first | exact Kd.S_nil _ _ _ _ _ | exact Kd.N_nil _ _ _ _ _ | exact Kd.V_nil _ _ _ _ _ | exact Kd.Q_nil _ _ _ _ _ | exact Kd.R_nil _ _ _ _ _, by repeat (first | (with_reducible first | exact HB.out | apply below_alloc | apply pw_below_drewN | apply below_drew1) | exact HB.out)⟩
                          · rw [if_neg c20] at H
                            have c20b0 : decide (16 < t554) = false := decide_eq_false c20
                            clear c20
                            obtain ⟨y556, hy556⟩ : ∃ y_ : List Int, y_ = (([] : List Int)) := ⟨_, rfl⟩
                            replace H : (if 0 ≤ (wrap64 ((ji12) + t555)) then (if (wrap64 ((ji12) + t555)) ≤ (wrap64 ((wrap64 ((ji12) + t555)) + t554)) then (if (wrap64 ((wrap64 ((ji12) + t555)) + t554)) ≤ (l0.length : Int) then (if y556.length + ((l0.take ((wrap64 ((wrap64 ((ji12) + t555)) + t554)) : Int).toNat).drop ((wrap64 ((ji12) + t555)) : Int).toNat).length < 17592186044416 then (if x4_1.length < 4398046511104 then (spec_unpack.l0 kj7 l0 (x4_1 ++ [(⟨t551, (y556 ++ ((l0.take ((wrap64 ((wrap64 ((ji12) + t555)) + t554)) : Int).toNat).drop ((wrap64 ((ji12) + t555)) : Int).toNat))⟩ : S52)]) (wrap64 ((wrap64 ((ji12) + t555)) + t554))) else (none)) else (none)) else (none)) else (none)) else (none)) = some (r1, r2) := by first | (rw [hy556]; with_reducible exact H) | (have H2_ := (Option.bind_some _ _).symm.trans H; rw [hy556]; with_reducible exact H2_) | (have H2_ := (Option.bind_some _ _).symm.trans H; with_reducible exact H2_) | with_reducible exact H | (rw [hy556]; exact H) | exact H
                            have Ny556 := Aside0.mk hy556
                            clear hy556
                            obtain ⟨ji22, hji22⟩ : ∃ j_ : Int, (wrap64 ((ji12) + t555)) = j_ := ⟨_, rfl⟩
                            replace H : (if 0 ≤ (ji22) then (if (ji22) ≤ (wrap64 ((ji22) + t554)) then (if (wrap64 ((ji22) + t554)) ≤ (l0.length : Int) then (if y556.length + ((l0.take ((wrap64 ((ji22) + t554)) : Int).toNat).drop ((ji22) : Int).toNat).length < 17592186044416 then (if x4_1.length < 4398046511104 then (spec_unpack.l0 kj7 l0 (x4_1 ++ [(⟨t551, (y556 ++ ((l0.take ((wrap64 ((ji22) + t554)) : Int).toNat).drop ((ji22) : Int).toNat))⟩ : S52)]) (wrap64 ((ji22) + t554))) else (none)) else (none)) else (none)) else (none)) else (none)) = some (r1, r2) := by first | (rw [hji22] at H; exact H) | (simp only [hji22] at H ⊢; exact H)
                            (try rw [hji22] at A15)
                            have hji22w : (IntKind.i64.wrap ((ji12) + t555)) = ji22 := (i64_w _).trans hji22
                            by_cases c23 : 0 ≤ (ji22)
                            · rw [if_pos c23] at H
                              have c23b0 := eq_true c23
                              have c23b1 : decide (0 ≤ (ji22)) = true := decide_eq_true c23
                              clear c23
                              by_cases c24 : (ji22) ≤ (wrap64 ((ji22) + t554))
                              · rw [if_pos c24] at H
                                have c24b0 := eq_true c24
                                have c24b1 : decide ((ji22) ≤ (wrap64 ((ji22) + t554))) = true := decide_eq_true c24
                                by_cases c25 : (wrap64 ((ji22) + t554)) ≤ (l0.length : Int)
                                · rw [if_pos c25] at H
                                  have c25b0 := eq_true c25
                                  have c25b1 : decide ((wrap64 ((ji22) + t554)) ≤ (l0.length : Int)) = true := decide_eq_true c25
                                  by_cases c26 : y556.length + ((l0.take ((wrap64 ((ji22) + t554)) : Int).toNat).drop ((ji22) : Int).toNat).length < 17592186044416
                                  · rw [if_pos c26] at H
                                    have LMc26 := Aside0.mk c26
                                    clear c26
                                    obtain ⟨y560, hy560⟩ : ∃ y_ : List Int, y_ = (y556 ++ ((l0.take ((wrap64 ((ji22) + t554)) : Int).toNat).drop ((ji22) : Int).toNat)) := ⟨_, rfl⟩
                                    replace H : (if x4_1.length < 4398046511104 then (spec_unpack.l0 kj7 l0 (x4_1 ++ [(⟨t551, y560⟩ : S52)]) (wrap64 ((ji22) + t554))) else (none)) = some (r1, r2) := by first | (rw [hy560]; with_reducible exact H) | (have H2_ := (Option.bind_some _ _).symm.trans H; rw [hy560]; with_reducible exact H2_) | (have H2_ := (Option.bind_some _ _).symm.trans H; with_reducible exact H2_) | with_reducible exact H | (rw [hy560]; exact H) | exact H
                                    have Ny560 := Aside0.mk hy560
                                    clear hy560
                                    by_cases c27 : x4_1.length < 4398046511104
                                    · rw [if_pos c27] at H
                                      have LMc27 := Aside0.mk c27
                                      clear c27
                                      obtain ⟨y563, hy563⟩ : ∃ y_ : List (S52), y_ = (x4_1 ++ [(⟨t551, y560⟩ : S52)]) := ⟨_, rfl⟩
                                      replace H : (spec_unpack.l0 kj7 l0 y563 (wrap64 ((ji22) + t554))) = some (r1, r2) := by first | (rw [hy563]; with_reducible exact H) | (have H2_ := (Option.bind_some _ _).symm.trans H; rw [hy563]; with_reducible exact H2_) | (have H2_ := (Option.bind_some _ _).symm.trans H; with_reducible exact H2_) | with_reducible exact H | (rw [hy563]; exact H) | exact H
                                      have Ny563 := Aside0.mk hy563
                                      clear hy563
                                      have H' := Aside0.mk H
                                      clear H
                                      obtain ⟨i028, hi028, _, hsz28, _⟩ := info_parts info3
                                      obtain ⟨A28, hcut28, hA28, hC28⟩ := print_drop_of (P := Try.prog) (Value.int .i64) 0 23 3 .i64 Try.underlying23 hi028 hsz28 A0 c0 l0 (ji12) (of_decide_eq_true (by first | (with_reducible assumption) | assumption)) (of_decide_eq_true (by first | (with_reducible assumption) | assumption)) HC0.out
                                      have HR553 := Aside0.mk (Kd.C_of_reads (h1 := fun _ => rfl) (hA28 _ (Kd.reads_of_C HR0.out)))
                                      have HC553 := Aside0.mk hC28
                                      clear hA28 hC28 hi028 hsz28
                                      go_wp2_with (first | ((with_reducible refine gate_callee (f := 66) rfl ?_); refine goesL_ (some 34) rfl rfl Try.func66 (by kernel_rfl) rfl #[.slice A28 (l0.drop ((ji12) : Int).toNat).length (c0 - (ji12).toNat)] rfl (by (try simp only [List.map_toArray, List.map_cons, List.map_nil]); first | done | (rw [show (l0.drop ((ji12) : Int).toNat).length = (l0.length - (ji12).toNat) from List.length_drop] <;> rfl) | (simp only [hji12]; rfl) | rfl | (simp only [List.length_drop, List.length_take]; rfl)) ?_; (with_reducible refine (spec_readGroups.calls kj7 _ _ (l0.drop ((ji12) : Int).toNat) t554 t555 _ ?side1 ?side2 A15.out).mono ?_); (case side1 => repeat (first | exact (Kd.C_below HR553.out HB.out) | (with_reducible refine Kd.C_alloc ?_ _) | (with_reducible refine Kd.C_drewN ?_ _) | (with_reducible refine Kd.C_drew ?_))); (case side2 => exact HC553.out); rintro e w' ⟨rfl, ⟨nd, rfl⟩⟩; refine ⟨_, rfl, ?_⟩) | ((with_reducible refine gate_dst (N := 57) rfl ?_); (try (refine gate_guard (by rfl) ?_; dsimp only)); refine Kd.R_lit (Kd.int .i64) _ 3 ?hg (N := 57) ?hd (xs := ([] : List Int)) (inner := []) (ok := fun _ => True) (okp := fun _ => True) ?hr ?hp (fun _ hk => hk) trivial (Below.refl _ _) (Nat.le_refl _) (by simp) ?_; (case hd => rfl); (case hg => rfl); (case hr => first | (go_simp; done) | (go_simp; rfl)); (case hp => exact (Reps.none _ _)); intro v557 w29 ho30 hb hg_ hnew_; clear hg_ hnew_; (first | rw [← Ny556.out] at ho30 | (simp only [Int.reduceToNat] at ho30; rw [← Ny556.out] at ho30)); have n0_ := Aside0.mk (Kd.S_elder' (by (with_reducible repeat (first | apply Kd.S_alloc | apply Kd.S_drewN | apply Kd.S_drew)); exact HO_4.out) (Kd.R_base ho30) hb); have n1_ := Aside0.mk (Kd.R_lower ho30 (below_size (by repeat (first | (with_reducible first | exact HB.out | apply below_alloc | apply pw_below_drewN | apply below_drew1) | exact HB.out)))); have n2_ := Aside0.mk (below_step (by repeat (first | (with_reducible first | exact HB.out | apply below_alloc | apply pw_below_drewN | apply below_drew1) | exact HB.out)) hb); clear HO_4; clear HB; have HO_4 := n0_; have HO558 := n1_; have HB := n2_; clear n0_ n1_ n2_; clear hb ho30; obtain ⟨i031, hi031, _, hsz31, _⟩ := info_parts info3; obtain ⟨A31, hcut31, hA31, hC31⟩ := print_mid_of (P := Try.prog) (Value.int .i64) 0 23 3 .i64 .i64 Try.underlying23 hi031 hsz31 A0 c0 l0 (ji22) (wrap64 ((ji22) + t554)) (of_decide_eq_true (by first | (with_reducible assumption) | assumption)) (by first | omega | exact of_decide_eq_true (by first | (with_reducible assumption) | assumption)) (of_decide_eq_true (by first | (with_reducible assumption) | assumption)) HC0.out; have HR559 := Aside0.mk (Kd.C_of_reads (h1 := fun _ => rfl) (hA31 _ (Kd.reads_of_C HR0.out))); have HC559 := Aside0.mk hC31; clear hA31 hC31 hi031 hsz31) | ((with_reducible refine gate_builtin (b := .append) (xs := #[.tmp 57, .tmp 71]) rfl ?_); (try (refine gate_guard (by rfl) ?_; dsimp only)); at_builtin; refine Kd.R_append_rows (Kd.int .i64) (w0 := w) w.heap.size rfl (.tmp 57) (.tmp 71) 23 3 (.int .i64 0) 8 rfl Try.underlying23 info3 rfl (by decide) (by omega) v557 y556 ((l0.take ((wrap64 ((ji22) + t554)) : Int).toNat).drop ((ji22) : Int).toNat) _ _ _ (fun _ => True) (fun _ => False) rfl rfl ?aO ?aR (fun _ _ h => h) (fun _ h => h.elim) ?aF ?aB ?aS ?aL ?_; (case aR => first | (rw [← show ((l0.take ((wrap64 ((ji22) + t554)) : Int).toNat).drop ((ji22) : Int).toNat).length = ((wrap64 ((ji22) + t554)).toNat - (ji22).toNat) from (by rw [List.length_drop, List.length_take]; have h_ : ((wrap64 ((ji22) + t554)) : Int) ≤ (l0.length : Int) := of_decide_eq_true (by first | (with_reducible assumption) | assumption); omega)]; repeat (first | exact (Kd.C_below HR559.out HB.out) | (with_reducible refine Kd.C_alloc ?_ _) | (with_reducible refine Kd.C_drewN ?_ _) | (with_reducible refine Kd.C_drew ?_))) | (repeat (first | exact (Kd.C_below HR559.out HB.out) | (with_reducible refine Kd.C_alloc ?_ _) | (with_reducible refine Kd.C_drewN ?_ _) | (with_reducible refine Kd.C_drew ?_)))); (case aB => exact (by repeat (first | (with_reducible first | exact HB.out | apply below_alloc | apply pw_below_drewN | apply below_drew1) | exact HB.out))); (case aF => exact (fun _ _ => trivial)); (case aO => exact (by (with_reducible repeat (first | apply Kd.R_alloc | apply Kd.R_drewN | apply Kd.R_drew)); exact HO558.out)); (case aS => exact (below_size (by repeat (first | (with_reducible first | exact HB.out | apply below_alloc | apply pw_below_drewN | apply below_drew1) | exact HB.out)))); (case aL => have := LMc26.out; have hlx_ := (show ((l0.take ((wrap64 ((ji22) + t554)) : Int).toNat).drop ((ji22) : Int).toNat).length = ((wrap64 ((ji22) + t554)).toNat - (ji22).toNat) from (by rw [List.length_drop, List.length_take]; have h_ : ((wrap64 ((ji22) + t554)) : Int) ≤ (l0.length : Int) := of_decide_eq_true (by first | (with_reducible assumption) | assumption); omega)); omega); intro v561 w32 ho hb hg hat; rw [← Ny560.out] at ho; have n0_ := Aside0.mk (Kd.S_after (ok := (fun _ => True)) (by (with_reducible repeat (first | apply Kd.S_alloc | apply Kd.S_drewN | apply Kd.S_drew)); exact HO_4.out) hg hat); have n1_ := Aside0.mk (hb); have n2_ := Aside0.mk (ho); clear HO_4; clear HB; clear HO558; have HO_4 := n0_; have HB := n1_; have HO562 := n2_; clear n0_ n1_ n2_; clear ho hb hg hat; obtain ⟨Ao33, co33, eo33⟩ := Kd.R_slice HO562.out; subst eo33) | ((with_reducible refine gate_builtin (b := .append) (xs := #[.tmp 55, .tmp 74]) rfl ?_); (try (refine gate_guard (by rfl) ?_; dsimp only)); at_builtin; refine Kd.S_append k52 (w0 := w) w.heap.size rfl (.tmp 55) (.tmp 74) 33 52 (.agg #[(.int .i64 0), (.slice none 0 0)]) 32 rfl Try.underlying33 info52 rfl (by decide) (by omega) u4 x4_1 (⟨t551, y560⟩ : S52) [.int .i64 t551, .slice Ao33 y560.length co33] (fun _ => True) (fun k_ => some k_ = (.slice Ao33 y560.length co33 : Value).ownBlock) rfl rfl ?aP (fun k_ hk_ => ((Kd.R_mono (ok' := fun k_ => ((fun _ => True)) k_ ∧ some k_ ≠ (u4 : Value).ownBlock) (Kd.R_apart' (HO562.out) (Kd.S_typed HO_4.out) (by decide)) (fun k_ hk => ⟨trivial, hk.2⟩))).1 k_ hk_.symm) ?aF ?aO ?aB ?aS ?aL ?_; (case aP => exact k52_mkM _ _ _ (⟨t551, y560⟩ : S52) (Kd.R_mono (Kd.R_tight rfl (Kd.R_mono (ok' := fun k_ => ((fun _ => True)) k_ ∧ some k_ ≠ (u4 : Value).ownBlock) (Kd.R_apart' (HO562.out) (Kd.S_typed HO_4.out) (by decide)) (fun k_ hk => ⟨trivial, hk.2⟩))) (fun _ h_ => h_))); (case aB => exact (by repeat (first | (with_reducible first | exact HB.out | apply below_alloc | apply pw_below_drewN | apply below_drew1) | exact HB.out))); (case aF => exact (fun _ _ => trivial)); (case aO => exact (by (with_reducible repeat (first | apply Kd.S_alloc | apply Kd.S_drewN | apply Kd.S_drew)); exact Kd.S_mono HO_4.out (fun k_ hk => ⟨trivial, fun e_ => hk.2 e_⟩))); (case aS => exact (below_size (by repeat (first | (with_reducible first | exact HB.out | apply below_alloc | apply pw_below_drewN | apply below_drew1) | exact HB.out)))); (case aL => have := LMc27.out; omega); intro v564 w34 ho hb hg hat; rw [← Ny563.out] at ho; have n0_ := Aside0.mk (hb); have n1_ := Aside0.mk (ho); clear HB; clear HO_4; clear HO562; have HB := n0_; have HO565 := n1_; clear n0_ n1_; clear ho hb hg hat))
                                      go_roundg kj7
                                      case measure => have := HK1.out; have := HJ7.out; omega
                                      case rel => exact ⟨(y563), (wrap64 ((ji22) + t554)), (by first | rfl | (simp; done) | (simp only [← hji22] <;> (first | rfl | simp)) | (simp [*]; done)), H', ⟨by have := HK1.out; have := HJ7.out; omega⟩, ⟨by (with_reducible repeat (first | apply Kd.S_alloc | apply Kd.S_drewN | apply Kd.S_drew)); exact HO565.out⟩, ⟨by repeat (first | (with_reducible first | exact HB.out | apply below_alloc | apply pw_below_drewN | apply below_drew1) | exact HB.out)⟩⟩
                                    · rw [if_neg c27] at H
                                      exact absurd H (by simp)
                                  · rw [if_neg c26] at H
                                    exact absurd H (by simp)
                                · rw [if_neg c25] at H
                                  exact absurd H (by simp)
                              · rw [if_neg c24] at H
                                exact absurd H (by simp)
                            · rw [if_neg c23] at H
                              exact absurd H (by simp)
                    · rw [if_neg c14] at H
                      exact absurd H (by simp)
                  · rw [if_neg c13] at H
                    exact absurd H (by simp)
          · rw [if_neg c6] at H
            exact absurd H (by simp)
        · rw [if_neg c5] at H
          exact absurd H (by simp)
      · rw [if_neg c4] at H
        have c4b0 : decide (x5_1 < (l0.length : Int)) = false := decide_eq_false c4
        clear c4
        simp only [Option.some.injEq, Prod.mk.injEq] at H
        obtain ⟨rfl, rfl⟩ := H
        obtain ⟨Ao35, co35, eo35⟩ := Kd.S_slice HO_4.out
        subst eo35
        go_wp2
        go_ret2
        exact ⟨_, by first | rfl | (simp [errW_none, errW_some] <;> rfl) | (simp [*, errW_none, errW_some] <;> rfl), by (with_reducible repeat (first | apply Kd.S_alloc | apply Kd.S_drewN | apply Kd.S_drew)); exact HO_4.out, by repeat (first | (with_reducible first | exact HB.out | apply below_alloc | apply pw_below_drewN | apply below_drew1) | exact HB.out)⟩

end Go.Proofs.Ytkfbmpllbcladaa.P
