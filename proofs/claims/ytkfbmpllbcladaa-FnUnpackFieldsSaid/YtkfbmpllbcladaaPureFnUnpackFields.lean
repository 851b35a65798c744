/- The law FnUnpackFields returns true for every code: conditions: the code is bytes, and as long as an argument may be. -/
import Derived.Test.YtkfbmpllbcladaaPx2
import Derived.Test.YtkfbmpllbcladaaPx34
import Derived.Test.YtkfbmpllbcladaaPx35
import Derived.Test.YtkfbmpllbcladaaQDF
namespace Go.Proofs.Ytkfbmpllbcladaa.Pure
open Go.RowKit Go.Proofs.Ytkfbmpllbcladaa.P Go.Proofs.YtkfbmpllbcladaaW.PrintWords Go.Proofs.YtkfbmpllbcladaaW.PrintLast
set_option linter.unusedVariables false
set_option linter.unusedSimpArgs false

theorem drawUnpack_j0 (b l : List Int) (c : Bool) (p m : Int) (h : RS b p m) (hm : m ≤ 900000) (hl : l.length ≤ 1000000) (hc : c = true → 1 ≤ l.length) : ∃ r, (∀ k, 2 ≤ k → spec_DrawUnpackFields.j0 k l c b p = some r) ∧ r.length ≤ l.length := by
  have cut : ∀ (y : List Int) (p m : Int), RS b p m → m ≤ 1000000 → y.length = l.length → ∃ r, (∀ k, 1 ≤ k → (if (l.length : Int) > 0 then ((spec_reader_pick.f k b p 8).bind fun bt => (if bt.1 = 0 then (if 0 ≤ (wrap64 ((l.length : Int) - 1)) then (if (wrap64 ((l.length : Int) - 1)) ≤ (l.length : Int) then (some (y.take ((wrap64 ((l.length : Int) - 1)) : Int).toNat)) else (none)) else (none)) else (some y))) else (some y)) = some r) ∧ r.length ≤ l.length := by
    intro y p m h hm hy
    by_cases h0 : (l.length : Int) > 0
    · obtain ⟨t, ht, t0, t1, hR⟩ := pick_some h (by omega) 8 (by omega)
      have e : wrap64 ((l.length : Int) - 1) = (l.length : Int) - 1 := w64 (by omega) (by omega)
      by_cases c0 : t = 0
      · refine ⟨y.take ((l.length : Int) - 1).toNat, fun k hk => ?_, by simp; omega⟩
        rw [if_pos h0, ht k hk]
        simp only [bsome]
        rw [if_pos c0, e, if_pos (by omega), if_pos (by omega)]
      · refine ⟨y, fun k hk => ?_, by omega⟩
        rw [if_pos h0, ht k hk]
        simp only [bsome]
        rw [if_neg c0]
    · exact ⟨y, fun k hk => by rw [if_neg h0], by omega⟩
  cases c with
  | false =>
    obtain ⟨r, e1, e2⟩ := cut l p m h (by omega) rfl
    refine ⟨r, fun k hk => ?_, e2⟩
    obtain ⟨k, rfl⟩ : ∃ j, k = j + 1 := ⟨k - 1, by omega⟩
    simp only [spec_DrawUnpackFields.j0, Bool.false_eq_true, if_false]
    exact e1 k (by omega)
  | true =>
    have hl1 := hc rfl
    obtain ⟨t, ht, t0, t1, h1⟩ := pick_some h (by omega) (l.length : Int) (by omega)
    obtain ⟨x, hx, hxm, h2⟩ := one_some h1 (by omega) [0, 1, 2, 128, 255, 5, 256] (by simp) (by simp)
    obtain ⟨r, e1, e2⟩ := cut (l.set t.toNat x) _ _ h2 (by omega) (by simp)
    refine ⟨r, fun k hk => ?_, e2⟩
    obtain ⟨k, rfl⟩ : ∃ j, k = j + 1 := ⟨k - 1, by omega⟩
    simp only [spec_DrawUnpackFields.j0, if_true]
    rw [ht k (by omega)]
    simp only [bsome]
    rw [hx k (by omega)]
    simp only [bsome]
    rw [if_pos t0, if_pos (t1 (by omega))]
    exact e1 k (by omega)

theorem drawUnpack_some (code : List Int) (h : ∀ x ∈ code, (Lit.int .u8 x).wf = true) : ∃ l, (∀ k, 4000000 ≤ k → spec_DrawUnpackFields.f k code = some l) ∧ l.length ≤ 1000 := by
  obtain ⟨b, hb, hR⟩ := newReader_some code h
  obtain ⟨r, p1, e1, e2, e3, e4⟩ := someFields_some hR (by omega)
  have hb6 : ∀ f ∈ r, f.f1.length ≤ 1000000 := fun f hf => by have := e3 f hf; omega
  have hpl : (packOf r).length ≤ 1000 := by
    unfold packOf; split
    · rename_i h
      simp only [okFs, Bool.and_eq_true, decide_eq_true_eq] at h
      have := pack_le r h.2; omega
    · simp
  by_cases h0 : ((packOf r).length : Int) > 0
  · obtain ⟨t, ht, _, _, h1⟩ := pick_some e4 (by omega) 4 (by omega)
    obtain ⟨l, f1, f2⟩ := drawUnpack_j0 b (packOf r) (t == 0) _ _ h1 (by omega) (by omega) (by omega)
    refine ⟨l, fun k hk => ?_, by omega⟩
    unfold spec_DrawUnpackFields.f
    rw [hb]
    simp only [bsome]
    rw [e1 k (by omega)]
    simp only [bsome]
    rw [specPack_some r (by omega) hb6 k (by omega)]
    simp only [bsome]
    rw [if_pos h0, ht k (by omega)]
    exact f1 k (by omega)
  · obtain ⟨l, f1, f2⟩ := drawUnpack_j0 b (packOf r) false _ _ e4 (by omega) (by omega) (by simp)
    refine ⟨l, fun k hk => ?_, by omega⟩
    unfold spec_DrawUnpackFields.f
    rw [hb]
    simp only [bsome]
    rw [e1 k (by omega)]
    simp only [bsome]
    rw [specPack_some r (by omega) hb6 k (by omega)]
    simp only [bsome]
    rw [if_neg h0]
    exact f1 k (by omega)

theorem FnUnpackFields : laws_FnUnpackFields.Pure := by
  intro code hm hs hw
  by_cases hlong : (code.length : Int) > 1048576
  · exact ⟨0, by unfold laws_FnUnpackFields.f; rw [if_pos hlong]⟩
  · obtain ⟨l, hl, hlen⟩ := drawUnpack_some code hw
    refine ⟨5000001, ?_⟩
    unfold laws_FnUnpackFields.f
    rw [if_neg hlong, hl _ (by omega)]
    simp only [bsome]
    rw [implUnpack_some l (by omega) _ (by omega)]
    simp only [bsome]
    rw [specUnpack_some l (by omega) _ (by omega)]
    simp only [bsome]
    rw [← unpack_agree l]
    have hsm := implUnpackOf_small l
    have htr := @implUnpackOf_true l
    generalize implUnpackOf l = q at *
    have hb6 : ∀ f ∈ q.1, f.f1.length ≤ 1000000 := fun f hf => by have := hsm.2 f hf; omega
    rw [equalFields_self q.1 (by omega) hb6 _ (by omega)]
    simp only [bsome, if_true, bne_self_eq_false, Bool.false_eq_true, if_false]
    simp only [laws_FnUnpackFields.j0]
    cases h2 : q.2
    · simp only [Bool.not_false, if_true]
      rw [equalFields_self q.1 (by omega) hb6 _ (by omega)]
      simp
    · simp only [Bool.not_true, Bool.false_eq_true, if_false]
      have hu := htr h2
      have hp : packOf q.1 = l := by unfold packOf; rw [if_pos hu.1]; exact hu.2
      rw [implPack_some q.1 _ (by omega), bsome, hp, equalInts_some l l (by omega) _ (by omega)]
      simp

end Go.Proofs.Ytkfbmpllbcladaa.Pure
