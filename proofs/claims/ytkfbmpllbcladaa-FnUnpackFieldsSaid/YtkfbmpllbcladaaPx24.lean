/- Written by a program: each theorem '.calls' says that the call of a function of the given program comes to what the Lean function beside it says; no condition but what stands in it. -/
import Derived.Test.YtkfbmpllbcladaaPx0
import Derived.Test.YtkfbmpllbcladaaPx8
import Derived.Test.YtkfbmpllbcladaaPx23
namespace Go.Proofs.Ytkfbmpllbcladaa.P
open Go.RowKit Go.Proofs.YtkfbmpllbcladaaW.PrintWords Go.Proofs.YtkfbmpllbcladaaW.PrintLast Go.Proofs.YtkfbmpllbcladaaW.PrintMore
attribute [local go_sem] max2_int min2_int max_two min_two max_three min_three max_four min_four   -- for this text's walks alone
set_option linter.unusedVariables false
set_option linter.unusedSimpArgs false

/-! ### mine: impl_fieldsOk: function 47 -/
/-- Is a field none? -/
def badField (x : S52) : Bool := !(decide (0 ≤ x.f0) && decide (x.f0 ≤ 300)) || !(decide (x.f1.length ≤ 16) && !(x.f1.any noByte))
theorem bytesOk_tells (l : List Int) : impl_bytesOk.f l = some (decide (l.length ≤ 16) && !(l.any noByte)) := by
  unfold impl_bytesOk.f
  split
  · rename_i h
    unfold impl_bytesAlone.f
    rw [if_pos (by omega)]
    simp; omega
  · rename_i h
    have : ¬ l.length ≤ 16 := by omega
    simp [this]
set_option maxHeartbeats 2000000 in
theorem badField_calls (w : World) : PredF 61 #[] badField w := fun W x A c hb hc hr => by
  show Calls Try.prog 61 #[.agg #[.int .i64 x.f0, .slice A x.f1.length c]] W _
  have hbk := bytesOk_tells x.f1
  have hbc := fun (V : World) (hv : Below W.heap.size W V) => impl_bytesOk.calls A c x.f1 _ V (Kd.C_below hr hv) hc hbk
  clear hr hbk
  by_cases h0 : 0 ≤ x.f0 ∧ x.f0 ≤ 300
  · have hw : impl_within.f x.f0 0 300 = some true := by unfold impl_within.f; rw [if_pos h0.1]; simp [h0.2]
    have hwc := fun V => impl_within.calls x.f0 0 300 true V hw
    have hpx : badField x = !(decide (x.f1.length ≤ 16) && !(x.f1.any noByte)) := by simp [badField, h0.1, h0.2]
    rw [hpx]
    clear hpx hw h0
    generalize (decide (x.f1.length ≤ 16) && !(x.f1.any noByte)) = b at *
    generalize x.f1.length = n at *
    generalize x.f0 = t at *
    have HB := Aside0.mk hb
    clear hb
    go_enter Try.func61, Try.ntmps61
    go_wp2_with (first | (go_at_call 62; (with_reducible refine (hwc _).mono ?_); rintro e w' ⟨rfl, ⟨nq, rfl⟩⟩) | (go_at_call 38; (with_reducible refine (hbc _ ?hv).mono ?_); (case hv => exact pw_below_drewN (below_alloc (Below.refl _ _) _) _); rintro e w' ⟨rfl, hb'⟩))
    go_ret
    exact ⟨rfl, below_then HB.out HB.out.size (below_then (pw_below_drewN (below_alloc (Below.refl _ W) _) _) (pw_below_drewN (below_alloc (Below.refl _ W) _) _).size hb')⟩
  · have hw : impl_within.f x.f0 0 300 = some false := by unfold impl_within.f; split <;> simp; omega
    have hwc := fun V => impl_within.calls x.f0 0 300 false V hw
    have hpx : badField x = true := by simp [badField]; omega
    rw [hpx]
    clear hpx hw h0 hbc
    generalize x.f1.length = n at *
    generalize x.f0 = t at *
    have HB := Aside0.mk hb
    clear hb
    go_enter Try.func61, Try.ntmps61
    go_wp2_with (go_at_call 62; (with_reducible refine (hwc _).mono ?_); rintro e w' ⟨rfl, ⟨nq, rfl⟩⟩)
    go_ret
    exact ⟨rfl, below_then HB.out HB.out.size (pw_below_drewN (below_alloc (Below.refl _ W) _) _)⟩
def impl_fieldsOk.f (l0 : List S52) : Option (Bool) := some (decide (l0.length ≤ 5) && !(l0.any badField))
set_option maxHeartbeats 2000000 in
theorem impl_fieldsOk.calls (A0 : Option Addr) (c0 : Nat) (l0 : List S52) (r : Bool) (w : World) (hr0 : Kd.C k52 w A0 l0.length l0) (hc0 : l0.length ≤ c0) (h : impl_fieldsOk.f l0 = some r) :
    Calls Try.prog 47 #[.slice A0 l0.length c0] w fun e w' => e = .returned (.bool r) ∧ Below w.heap.size w w' := by
  cases h
  by_cases h5 : l0.length ≤ 5
  · have hcall := fun (V : World) (hv : Below w.heap.size w V) => ContainsFuncF_calls 61 #[] badField (enters_of Try.func61 (by kernel_rfl) rfl) A0 c0 l0 V (badField_calls V) (Kd.C_below hr0 hv) (by omega)
    clear hr0 hc0
    have e5 : (decide (l0.length ≤ 5) && !(l0.any badField)) = !(l0.any badField) := by simp [h5]
    rw [e5]
    clear e5
    generalize l0.any badField = b at *
    generalize l0.length = n at *
    have hd : decide ((n : Int) ≤ 5) = true := by simp; omega
    clear h5
    go_enter Try.func47, Try.ntmps47
    go_wp2_with (go_at_call 60; (with_reducible refine (hcall _ ?hv).mono ?_); (case hv => exact Below.refl _ _); rintro e w' ⟨rfl, hb'⟩)
    go_ret
    exact ⟨rfl, hb'⟩
  · have e5 : (decide (l0.length ≤ 5) && !(l0.any badField)) = false := by simp [h5]
    rw [e5]
    clear e5 hr0 hc0
    generalize l0.length = n at *
    have hd : decide ((n : Int) ≤ 5) = false := by simp; omega
    clear h5
    go_enter Try.func47, Try.ntmps47
    go_wp2
    go_ret
    exact ⟨rfl, Below.refl _ _⟩

/-! ### impl_groups: function 63 -/
def impl_groups.l0 : Nat → Int → List Int → Option (List Int)
  | 0, _, _ => none
  | k + 1, x0, x3 => if x0 > 127 then (if x3.length < 17592186044416 then (impl_groups.l0 k (wrap64 (Int.tdiv x0 128)) (x3 ++ [wrap64 ((Int.tmod x0 128) + 128)])) else (none)) else (if x3.length < 17592186044416 then (some (x3 ++ [x0])) else (none))
def impl_groups.f (k : Nat) (a0 : Int) : Option (List Int) := impl_groups.l0 k a0 ([] : List Int)
theorem impl_groups.mono_l : ∀ k, (∀ y0 y1, LeO (impl_groups.l0 k y0 y1) (impl_groups.l0 (k + 1) y0 y1))
  | 0 => fun _ _ r h => by simp [impl_groups.l0] at h
  | k + 1 => by
    have ih0 := impl_groups.mono_l k
    · intro y0 y1
      unfold impl_groups.l0
      repeat' first
      | (with_reducible exact ih0 _ _)
      | (with_reducible exact LeO.refl _)
      | (with_reducible exact LeO.none _)
      | (with_reducible refine LeO.ite ?_ ?_)
      | (with_reducible refine LeO.bind ?_ (fun _ => ?_))
      | exact ih0 _ _
      | exact LeO.none _
      | refine LeO.ite ?_ ?_
      | refine LeO.bind ?_ (fun _ => ?_)
theorem impl_groups.mono : ∀ a0 k, LeO (impl_groups.f k a0) (impl_groups.f (k + 1) a0) := by
  intro a0 k
  have ih0 := impl_groups.mono_l k
  unfold impl_groups.f
  repeat' first
      | (with_reducible exact ih0 _ _)
      | (with_reducible exact LeO.refl _)
      | (with_reducible exact LeO.none _)
      | (with_reducible refine LeO.ite ?_ ?_)
      | (with_reducible refine LeO.bind ?_ (fun _ => ?_))
      | exact ih0 _ _
      | exact LeO.none _
      | refine LeO.ite ?_ ?_
      | refine LeO.bind ?_ (fun _ => ?_)
set_option maxHeartbeats 8000000 in
set_option maxRecDepth 100000 in
theorem impl_groups.calls (k : Nat) (a0 : Int) (r : List Int) (w : World) (h : impl_groups.f k a0 = some r) :
    Calls Try.prog 63 #[.int .i64 a0] w fun e w' => ∃ v0_ : Value, e = .returned (v0_) ∧ Kd.R (Kd.int .i64) 3 w' w.heap.size (fun _ => True) v0_ r ∧ Below w.heap.size w w' := by
  have HB := Aside0.mk (Below.refl w.heap.size w)
  have H : (impl_groups.l0 k a0 ([] : List Int)) = some r := h
  clear h
  have H' := Aside0.mk H
  clear H
  go_enter Try.func63, Try.ntmps63
  go_wp2
  go_loopg [0, 3] k (fun kq v0 v3 w' => ∃ (x0_1 : Int) (x3_1 : List Int), v0 = .int .i64 x0_1 ∧ Aside0 (impl_groups.l0 kq x0_1 x3_1 = some r) ∧ Aside0 (kq ≤ k) ∧ Aside0 (Kd.R (Kd.int .i64) 3 w' w.heap.size (fun _ => True) v3 x3_1) ∧ Aside0 (Below w.heap.size w w'))
  case atStart => exact ⟨(a0), (([] : List Int)), (by first | rfl | (simp; done) | (simp [*]; done)), H', ⟨Nat.le_refl _⟩, ⟨by first | exact Kd.R_nil _ _ _ _ _ | exact Kd.N_nil _ _ _ _ _ | exact Kd.V_nil _ _ _ _ _ | exact Kd.Q_nil _ _ _ _ _ | exact Kd.S_nil _ _ _ _ _⟩, ⟨by repeat (first | (with_reducible first | exact HB.out | apply below_alloc | apply pw_below_drewN | apply below_drew1) | exact HB.out)⟩⟩
  case round =>
    clear H'
    obtain ⟨x0_1, x3_1, rfl, HA, HK1, HO_3, HB⟩ := hrel
    cases gk with
    | zero => exact absurd HA.out (by simp [impl_groups.l0])
    | succ k1 =>
      have H := HA.out
      clear HA
      simp only [impl_groups.l0] at H
      by_cases c2 : x0_1 > 127
      · rw [if_pos c2] at H
        have c2b0 : decide (127 < x0_1) = true := decide_eq_true c2
        clear c2
        by_cases c3 : x3_1.length < 17592186044416
        · rw [if_pos c3] at H
          have LMc3 := Aside0.mk c3
          clear c3
          obtain ⟨y430, hy430⟩ : ∃ y_ : List Int, y_ = (x3_1 ++ [wrap64 ((Int.tmod x0_1 128) + 128)]) := ⟨_, rfl⟩
          replace H : (impl_groups.l0 k1 (wrap64 (Int.tdiv x0_1 128)) y430) = some r := by first | (rw [hy430]; with_reducible exact H) | (have H2_ := (Option.bind_some _ _).symm.trans H; rw [hy430]; with_reducible exact H2_) | (have H2_ := (Option.bind_some _ _).symm.trans H; with_reducible exact H2_) | with_reducible exact H | (rw [hy430]; exact H) | exact H
          have Ny430 := Aside0.mk hy430
          clear hy430
          have H' := Aside0.mk H
          clear H
          go_wp2_with (first | ((with_reducible refine gate_builtin (b := .append) (xs := #[.tmp 6, .tmp 10]) rfl ?_); at_builtin; refine Kd.R_append (Kd.int .i64) (w0 := w) w.heap.size rfl (.tmp 6) (.tmp 10) 23 3 (.int .i64 0) 8 rfl Try.underlying23 info3 rfl (by decide) (by omega) u3 x3_1 (wrap64 ((Int.tmod x0_1 128) + 128)) [.int .i64 (wrap64 ((Int.tmod x0_1 128) + 128))] (fun _ => True) (fun _ => False) rfl rfl ?aP (fun _ hk => hk.elim) ?aF ?aO ?aB ?aS ?aL ?_; (case aP => exact rfl); (case aB => exact (by repeat (first | (with_reducible first | exact HB.out | apply below_alloc | apply pw_below_drewN | apply below_drew1) | exact HB.out))); (case aF => exact (fun _ _ => trivial)); (case aO => exact (by (with_reducible repeat (first | apply Kd.R_alloc | apply Kd.R_drewN | apply Kd.R_drew)); exact HO_3.out)); (case aS => exact (below_size (by repeat (first | (with_reducible first | exact HB.out | apply below_alloc | apply pw_below_drewN | apply below_drew1) | exact HB.out)))); (case aL => have := LMc3.out; omega); intro v431 w4 ho hb hg hat; rw [← Ny430.out] at ho; have n0_ := Aside0.mk (hb); have n1_ := Aside0.mk (ho); clear HB; clear HO_3; have HB := n0_; have HO432 := n1_; clear n0_ n1_; clear ho hb hg hat))
          go_roundg k1
          case measure => have := HK1.out; omega
          case rel => exact ⟨(wrap64 (Int.tdiv x0_1 128)), (y430), (by first | rfl | (simp; done) | (simp [*]; done)), H', ⟨by have := HK1.out; omega⟩, ⟨by (with_reducible repeat (first | apply Kd.R_alloc | apply Kd.R_drewN | apply Kd.R_drew)); exact HO432.out⟩, ⟨by repeat (first | (with_reducible first | exact HB.out | apply below_alloc | apply pw_below_drewN | apply below_drew1) | exact HB.out)⟩⟩
        · rw [if_neg c3] at H
          exact absurd H (by simp)
      · rw [if_neg c2] at H
        have c2b0 : decide (127 < x0_1) = false := decide_eq_false c2
        clear c2
        by_cases c5 : x3_1.length < 17592186044416
        · rw [if_pos c5] at H
          have LMc5 := Aside0.mk c5
          clear c5
          obtain ⟨y433, hy433⟩ : ∃ y_ : List Int, y_ = (x3_1 ++ [x0_1]) := ⟨_, rfl⟩
          replace H : (some y433) = some r := by first | (rw [hy433]; with_reducible exact H) | (have H2_ := (Option.bind_some _ _).symm.trans H; rw [hy433]; with_reducible exact H2_) | (have H2_ := (Option.bind_some _ _).symm.trans H; with_reducible exact H2_) | with_reducible exact H | (rw [hy433]; exact H) | exact H
          have Ny433 := Aside0.mk hy433
          clear hy433
          obtain rfl := Option.some.inj H
          go_wp2_with (first | ((with_reducible refine gate_builtin (b := .append) (xs := #[.tmp 14, .tmp 16]) rfl ?_); at_builtin; refine Kd.R_append (Kd.int .i64) (w0 := w) w.heap.size rfl (.tmp 14) (.tmp 16) 23 3 (.int .i64 0) 8 rfl Try.underlying23 info3 rfl (by decide) (by omega) u3 x3_1 x0_1 [.int .i64 x0_1] (fun _ => True) (fun _ => False) rfl rfl ?aP (fun _ hk => hk.elim) ?aF ?aO ?aB ?aS ?aL ?_; (case aP => exact rfl); (case aB => exact (by repeat (first | (with_reducible first | exact HB.out | apply below_alloc | apply pw_below_drewN | apply below_drew1) | exact HB.out))); (case aF => exact (fun _ _ => trivial)); (case aO => exact (by (with_reducible repeat (first | apply Kd.R_alloc | apply Kd.R_drewN | apply Kd.R_drew)); exact HO_3.out)); (case aS => exact (below_size (by repeat (first | (with_reducible first | exact HB.out | apply below_alloc | apply pw_below_drewN | apply below_drew1) | exact HB.out)))); (case aL => have := LMc5.out; omega); intro v434 w6 ho hb hg hat; rw [← Ny433.out] at ho; have n0_ := Aside0.mk (hb); have n1_ := Aside0.mk (ho); clear HB; clear HO_3; have HB := n0_; have HO435 := n1_; clear n0_ n1_; clear ho hb hg hat))
          go_ret
          exact ⟨_, by first | rfl | (simp [errW_none, errW_some] <;> rfl) | (simp [*, errW_none, errW_some] <;> rfl), by (with_reducible repeat (first | apply Kd.R_alloc | apply Kd.R_drewN | apply Kd.R_drew)); exact HO435.out, by repeat (first | (with_reducible first | exact HB.out | apply below_alloc | apply pw_below_drewN | apply below_drew1) | exact HB.out)⟩
        · rw [if_neg c5] at H
          exact absurd H (by simp)

end Go.Proofs.Ytkfbmpllbcladaa.P
