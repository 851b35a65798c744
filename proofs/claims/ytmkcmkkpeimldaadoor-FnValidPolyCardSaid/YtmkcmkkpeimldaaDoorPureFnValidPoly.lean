/- The pure part of FnValidPoly: the Lean function of the law answers true for every argument. -/
import Derived.Test.YtmkcmkkpeimldaaDoorPx2
import Derived.Test.YtmkcmkkpeimldaaDoorPx22
import Derived.Test.YtmkcmkkpeimldaaDoorPx23
import Derived.Test.YtmkcmkkpeimldaaDoorQD
import Derived.Test.YtmkcmkkpeimldaaDoorQT
namespace Go.Proofs.YtmkcmkkpeimldaaDoor.Pure
open Go.RowKit Go.Proofs.YtmkcmkkpeimldaaDoor.P Go.Proofs.YtmkcmkkpeimldaaDoorW.PrintWords Go.Proofs.YtmkcmkkpeimldaaDoorW.PrintLast
set_option linter.unusedVariables false
set_option linter.unusedSimpArgs false

theorem okPoly_ob (l : List Bool) (h2 : 2 ≤ l.length) (h9 : l.length ≤ 9) (h0 : l[0]? = some true) (h1 : l[l.length - 1]? = some true) : okPoly (ob l) = true := by
  have hs := ob_len l
  have hb := okBits_ob l
  have a0 : bt (ob l) 0 = 49 := by
    refine (bt0_iff (ob l) hb 0 (by omega)).2 ?_
    have : (bo (ob l))[0]? = some true := by rw [bo_ob]; exact h0
    exact (List.getElem?_eq_some_iff.1 this).2
  have a1 : bt (ob l) ((l.length : Int) - 1) = 49 := by
    rw [show ((l.length : Int) - 1) = ((l.length - 1 : Nat) : Int) by omega]
    refine (bt0_iff (ob l) hb (l.length - 1) (by omega)).2 ?_
    have : (bo (ob l))[l.length - 1]? = some true := by rw [bo_ob]; exact h1
    exact (List.getElem?_eq_some_iff.1 this).2
  unfold okPoly
  rw [hb, hs, a0, a1, decide_eq_true h2, decide_eq_true h9]
  rfl
theorem okPoly_turned {p : ByteArray} (hp : okPoly p = true) : okPoly (ob (bo p).reverse) = true := by
  have hz := okPoly_size hp
  have hl := bo_len p
  have h0 : (bo p)[0]? = some true := by rw [pt_cons hp]; rfl
  have h1 : (bo p)[p.size - 1]? = some true := by
    have := pt_last hp
    rw [List.getLast?_eq_getElem?, pt_len] at this
    rw [pt_cons hp, show p.size - 1 = (p.size - 1 - 1) + 1 by omega, List.getElem?_cons_succ]
    exact this
  refine okPoly_ob _ (by rw [List.length_reverse]; omega) (by rw [List.length_reverse]; omega) ?_ ?_
  · rw [List.getElem?_reverse (by omega), hl, show p.size - 1 - 0 = p.size - 1 by omega]; exact h1
  · rw [List.length_reverse, List.getElem?_reverse (by omega), hl, show p.size - 1 - (p.size - 1) = 0 by omega]; exact h0
theorem polyLaw_l0 {p : ByteArray} (hp : okPoly p = true) : ∀ (d j k : Nat), p.size - j = d → j ≤ p.size → d < k → laws_FnValidPoly.l0 k p (ob ((bo p).take j).reverse) (j : Int) = some true := by
  have hz := okPoly_size hp
  have hb := okPoly_bits hp
  intro d
  induction d with
  | zero =>
    intro j k hd hj hk
    obtain ⟨k, rfl⟩ : ∃ m, k = m + 1 := ⟨k - 1, by omega⟩
    simp only [laws_FnValidPoly.l0]
    have hx : (ob (bo p).reverse).size ≤ 1000 := by rw [ob_len, List.length_reverse, bo_len]; omega
    rw [if_neg (by omega), List.take_of_length_le (by rw [bo_len]; omega), implPoly_some _ (by omega), bsome, okPoly_turned hp, if_pos rfl, implI_some p p (by omega) (by omega), bsome,
      isB_of hp hb (by omega) (by omega) (by rw [pt_cons hp]; exact Crc.rst_self _)]
  | succ d ih =>
    intro j k hd hj hk
    obtain ⟨k, rfl⟩ : ∃ m, k = m + 1 := ⟨k - 1, by omega⟩
    simp only [laws_FnValidPoly.l0]
    have hjl : j < (bo p).length := by rw [bo_len]; omega
    have e1 : p.extract j (j + 1) = ob [(bo p)[j]] := by
      refine bo_inj (okBits_extract p hb _ _) (okBits_ob _) ?_
      rw [bo_ob, bo_extract, List.drop_eq_getElem_cons hjl, show j + 1 - j = 1 by omega]
      rfl
    rw [w64s (by omega), if_pos (by omega), if_pos (by omega), if_pos (by omega), if_pos (by omega), Int.toNat_natCast, Int.toNat_natCast, e1, if_pos (by rw [ob_len, ob_len, List.length_reverse, List.length_take]; simp; omega), ← ob_append]
    have ht : (bo p).take (j + 1) = (bo p).take j ++ [(bo p)[j]] := by rw [List.take_add_one, List.getElem?_eq_getElem hjl]; rfl
    rw [show [(bo p)[j]] ++ ((bo p).take j).reverse = ((bo p).take (j + 1)).reverse by rw [ht, List.reverse_append]; rfl]
    exact ih (j + 1) k (by omega) (by omega) (by omega)
theorem drawP_some (l : List Int) (h : ∀ x ∈ l, (Lit.int .u8 x).wf = true) (k : Nat) (hk : 200 ≤ k) : ∃ p, spec_DrawValidPoly.f k l = some p ∧ p.size ≤ 81 := by
  obtain ⟨b, hb, hR⟩ := newReader_some l h
  unfold spec_DrawValidPoly.f
  rw [hb, bsome]
  simp only []
  obtain ⟨r, hr, r0, r1, hR1⟩ := pick_some hR (by omega) 2 (by omega)
  rw [hr k (by omega), bsome]
  simp only []
  by_cases h0 : r = 0
  · rw [if_pos h0]
    obtain ⟨s, q2, h3, h4, _⟩ := someBits_some hR1 (by omega) 10 k (by omega)
    rw [h3, bsome]
    exact ⟨s, rfl, h4⟩
  · rw [if_neg h0]
    obtain ⟨p, q, h1, h2, _⟩ := aPoly_some hR1 (by omega) k (by omega)
    rw [h1, bsome]
    exact ⟨p, rfl, by omega⟩
theorem FnValidPoly : laws_FnValidPoly.Pure := by
  intro l _ _ hw
  obtain ⟨p, hd, hp⟩ := drawP_some l hw 1000 (by omega)
  refine ⟨1000, ?_⟩
  unfold laws_FnValidPoly.f
  split
  · rfl
  · rw [hd, bsome, implPoly_some p (by omega), bsome]
    unfold spec_ValidPoly.f
    rw [specPoly_some p (by omega) _ (by omega), bsome, bsome, if_neg (by simp)]
    simp only [laws_FnValidPoly.j0]
    cases h : okPoly p with
    | true =>
      have hz := okPoly_size h
      rw [if_neg (by simp)]
      have := polyLaw_l0 h p.size 0 999 (by omega) (by omega) (by omega)
      rw [List.take_zero] at this
      exact this
    | false =>
      rw [if_pos (by simp)]
      unfold spec_ValidPoly.f
      rw [specPoly_some p (by omega) _ (by omega), bsome, bsome, h]
      rfl

end Go.Proofs.YtmkcmkkpeimldaaDoor.Pure
