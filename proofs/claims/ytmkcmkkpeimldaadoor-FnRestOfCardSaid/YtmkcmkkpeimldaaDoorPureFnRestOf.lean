/- The pure part of FnRestOf: the Lean function of the law answers true for every argument. -/
import Derived.Test.YtmkcmkkpeimldaaDoorPx25
import Derived.Test.YtmkcmkkpeimldaaDoorPx7
import Derived.Test.YtmkcmkkpeimldaaDoorPx8
import Derived.Test.YtmkcmkkpeimldaaDoorQD
namespace Go.Proofs.YtmkcmkkpeimldaaDoor.Pure
open Go.RowKit Go.Proofs.YtmkcmkkpeimldaaDoor.P Go.Proofs.YtmkcmkkpeimldaaDoorW.PrintWords Go.Proofs.YtmkcmkkpeimldaaDoorW.PrintLast
set_option linter.unusedVariables false
set_option linter.unusedSimpArgs false

theorem restLaw_l0 (p s o : ByteArray) (hs : okBits s = true) (ho : okBits o = true) (m : Nat) (hm : o.size = m) (hn : m ≤ s.size) (hz : s.size ≤ 1000) (fin : Option Bool) :
    ∀ (d j k : Nat) (acc : List Bool), m - j = d → j ≤ m → acc.length ≤ 2000 + j → d < k →
      ((impl_RestOf.f p o).bind fun t => if t.toList = o.toList then ((impl_IsSealed.f p (ob (acc ++ Crc.xorL ((bo s).drop (s.size - m + j)) ((bo o).drop j)))).bind fun u => some u) else some false) = fin →
      laws_FnRestOf.l0 k p s o (m : Int) (ob acc) (j : Int) = fin := by
  intro d
  induction d with
  | zero =>
    intro j k acc hd hj ha hk hf
    obtain ⟨k, rfl⟩ : ∃ m, k = m + 1 := ⟨k - 1, by omega⟩
    simp only [laws_FnRestOf.l0]
    rw [if_neg (show ¬ (j : Int) < (m : Int) by omega), if_pos (show (o.size : Int) = (m : Int) by omega)]
    rw [List.drop_eq_nil_of_le (by rw [bo_len]; omega), List.drop_eq_nil_of_le (by rw [bo_len]; omega)] at hf
    rw [show Crc.xorL [] [] = [] from rfl, List.append_nil] at hf
    exact hf
  | succ d ih =>
    intro j k acc hd hj ha hk hf
    obtain ⟨k, rfl⟩ : ∃ m, k = m + 1 := ⟨k - 1, by omega⟩
    simp only [laws_FnRestOf.l0]
    have e1 : wrap64 (wrap64 ((s.size : Int) - (m : Int)) + (j : Int)) = ((s.size - m + j : Nat) : Int) := by
      rw [w64 (n := (s.size : Int) - (m : Int)) (by omega) (by omega), w64 (by omega) (by omega)]; omega
    have hjs : s.size - m + j < (bo s).length := by rw [bo_len]; omega
    have hjo : j < (bo o).length := by rw [bo_len]; omega
    rw [e1, if_pos (show (j : Int) < (m : Int) by omega), if_pos (show (0 : Int) ≤ ((s.size - m + j : Nat) : Int) by omega), if_pos (show ((s.size - m + j : Nat) : Int) < (s.size : Int) by omega), if_pos (show (0 : Int) ≤ (j : Int) by omega),
      if_pos (show (j : Int) < (o.size : Int) by omega), w64s (by omega), bit_at s hs _ (by omega), bit_at o ho j (by omega), if_pos (show (ob acc).size + 1 ≤ 9223372036854775807 by rw [ob_len]; omega), e48o, e49o, ← ob_append, ← ob_append]
    rw [List.drop_eq_getElem_cons hjs, List.drop_eq_getElem_cons hjo, Crc.xorL] at hf
    generalize (bo s)[s.size - m + j] = x at hf ⊢
    generalize (bo o)[j] = y at hf ⊢
    have key : ∀ z : Bool, z = (x != y) → laws_FnRestOf.l0 k p s o (m : Int) (ob (acc ++ [z])) ((j + 1 : Nat) : Int) = fin := by
      intro z hz2
      refine ih (j + 1) k (acc ++ [z]) (by omega) (by omega) (by simp; omega) (by omega) ?_
      rw [← hf, List.append_assoc, hz2]
      rfl
    cases x <;> cases y
    · rw [if_pos rfl]; exact key false rfl
    · rw [if_neg (by decide), if_pos (show (ob acc).size + 1 ≤ 9223372036854775807 by rw [ob_len]; omega)]; exact key true rfl
    · rw [if_neg (by decide), if_pos (show (ob acc).size + 1 ≤ 9223372036854775807 by rw [ob_len]; omega)]; exact key true rfl
    · rw [if_pos rfl]; exact key false rfl
theorem FnRestOf : laws_FnRestOf.Pure := by
  intro l _ _ hw
  obtain ⟨p, s, hd, hp, hs⟩ := drawR_some l hw 1000 (by omega)
  refine ⟨1000, ?_⟩
  unfold laws_FnRestOf.f
  split
  · rfl
  · rw [hd, bsome]
    simp only []
    rw [implR_some p s (by omega) (by omega), bsome, specR_some p s (by omega) (by omega) _ (by omega), bsome, if_pos rfl]
    simp only [laws_FnRestOf.j0]
    by_cases h : okPoly p = true ∧ okBits s = true ∧ s.size ≤ 40 ∧ p.size - 1 ≤ s.size
    · have hz := okPoly_size h.1
      have e : rB p s = restB p s := by unfold rB; rw [if_pos h]
      have hsz := restB_len p s
      rw [e, if_neg (by
        intro x
        have := (toList_nil_iff (restB p s)).1 (by simpa using x)
        omega)]
      have e1 : wrap64 ((p.size : Int) - 1) = ((p.size - 1 : Nat) : Int) := by rw [w64 (by omega) (by omega)]; omega
      have e2 : wrap64 ((s.size : Int) - ((p.size - 1 : Nat) : Int)) = ((s.size - (p.size - 1) : Nat) : Int) := by rw [w64 (by omega) (by omega)]; omega
      rw [e1, e2, if_pos (by omega), if_pos (by omega), Int.toNat_natCast]
      have e3 : s.extract 0 (s.size - (p.size - 1)) = ob ((bo s).take (s.size - (p.size - 1))) := by
        refine bo_inj (okBits_extract s h.2.1 _ _) (okBits_ob _) ?_
        rw [bo_ob, bo_extract, List.drop_zero, Nat.sub_zero]
      rw [e3]
      have hbo : bo (restB p s) = Crc.rst (pt p) (bo s) := by unfold restB; rw [bo_ob]
      have hlO : (Crc.rst (pt p) (bo s)).length = p.size - 1 := by rw [Crc.rst_length, pt_len]
      refine restLaw_l0 p s (restB p s) h.2.1 (okBits_ob _) (p.size - 1) hsz h.2.2.2 (by omega) (some true) _ 0 _ _ rfl (by omega) (by rw [List.length_take, bo_len]; omega) (by omega) ?_
      rw [implR_some p _ (by omega) (by omega), bsome]
      have e4 : rB p (restB p s) = restB p s := by
        unfold rB
        rw [if_pos ⟨h.1, okBits_ob _, by omega, by omega⟩]
        show ob (Crc.rst (pt p) (bo (restB p s))) = restB p s
        rw [hbo, Crc.rst_full (by rw [hlO, pt_len])]
        rfl
      rw [e4, if_pos rfl, Nat.add_zero, List.drop_zero, hbo]
      have e5 : (bo s).take (s.size - (p.size - 1)) ++ Crc.xorL ((bo s).drop (s.size - (p.size - 1))) (Crc.rst (pt p) (bo s)) = Crc.xorL (bo s) (Crc.zer (s.size - (p.size - 1)) ++ Crc.rst (pt p) (bo s)) := by
        conv => rhs; rw [← List.take_append_drop (s.size - (p.size - 1)) (bo s)]
        rw [Crc.xorL_append _ _ _ _ (by rw [List.length_take, bo_len]; simp [Crc.zer]), Crc.xorL_zer _ _ (by rw [List.length_take, bo_len]; omega), List.take_append_drop]
      have hlz : (Crc.zer (s.size - (p.size - 1)) ++ Crc.rst (pt p) (bo s)).length = s.size := by rw [List.length_append, hlO]; simp [Crc.zer]; omega
      have hlx : (Crc.xorL (bo s) (Crc.zer (s.size - (p.size - 1)) ++ Crc.rst (pt p) (bo s))).length = s.size := by rw [Crc.xorL_length _ _ (by rw [bo_len, hlz]), bo_len]
      rw [e5, implI_some p _ (by omega) (by rw [ob_len, hlx]; omega), bsome]
      congr 1
      unfold isB
      have hz2 : allz (Crc.rst (pt p) (bo (ob (Crc.xorL (bo s) (Crc.zer (s.size - (p.size - 1)) ++ Crc.rst (pt p) (bo s)))))) = true := by
        rw [allz_iff, Crc.rst_length, bo_ob, Crc.rst_xor _ _ _ (by rw [bo_len, hlz]), Crc.rst_zer_append, Crc.rst_full (s := Crc.rst (pt p) (bo s)) (by rw [hlO, pt_len]), Crc.xorL_self, Crc.rst_length]
      rw [h.1, okBits_ob, ob_len, hlx, hz2, decide_eq_true h.2.2.1, decide_eq_true h.2.2.2]
      rfl
    · have e : rB p s = tb [] := by unfold rB; rw [if_neg h]
      rw [e, if_pos (by rw [nil_toList]; rfl), specR_some p s (by omega) (by omega) _ (by omega), bsome, e]
      simp

end Go.Proofs.YtmkcmkkpeimldaaDoor.Pure
