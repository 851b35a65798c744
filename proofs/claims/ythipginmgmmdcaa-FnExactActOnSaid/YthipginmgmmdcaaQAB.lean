/- Windows: the links, and both ways to act on them. -/
import Derived.Test.YthipginmgmmdcaaPBigx1
import Derived.Test.YthipginmgmmdcaaPBigx2
import Derived.Test.YthipginmgmmdcaaPBigx3
import Derived.Test.YthipginmgmmdcaaPBigx4
import Derived.Test.YthipginmgmmdcaaPBigx5
import Derived.Test.YthipginmgmmdcaaPBigx7
import Derived.Test.YthipginmgmmdcaaPBigx8
import Derived.Test.YthipginmgmmdcaaPBigx9
namespace Go.Proofs.Ythipginmgmmdcaa.Pure
open Go.RowKit Go.Proofs.Ythipginmgmmdcaa.PBig Go.Proofs.YthipginmgmmdcaaW.PrintWords Go.Proofs.YthipginmgmmdcaaW.PrintLast
set_option linter.unusedVariables false
set_option linter.unusedSimpArgs false

/- Plain theory of the windows chapter: links of a plan, the search over all links, safe plans. No Go and no memory in it. -/
namespace Win

structure Pl where
  (n a k w : Int)
structure Lk where
  (kn se du he da wo : Int)
deriving DecidableEq

def settle : Nat → Int → Int → Int × Int
  | 0, he, du => (he, du)
  | f + 1, he, du => if he % 2 = 1 then settle f (he / 2) (du + 1) else (he, du)

def firstK (n du word : Int) : Nat → Int → Option Int
  | 0, _ => none
  | r + 1, k => if (du + k) % n = word % n then some k else firstK n du word r (k + 1)

/-- The first number from j on, of r ones, that has wo's rest. -/
def firstA (n wo : Int) : Nat → Int → Option Int
  | 0, _ => none
  | r + 1, j => if j % n = wo % n then some j else firstA n wo r (j + 1)

def setBit (he k : Int) : Int := if he / 2 ^ k.toNat % 2 = 1 then he else he + 2 ^ k.toNat

def took (l : Lk) (he : Int) : Lk :=
  let r := settle 8 he l.du
  { l with he := r.1, du := r.2, da := -1, wo := r.2 }

/-- The word on its way comes. -/
def arrive (p : Pl) (l : Lk) : Lk × Bool :=
  match firstK p.n l.du l.da p.k.toNat 0 with
  | none => (took l l.he, true)
  | some k => if l.du + k = l.da then (took l (setBit l.he k), true) else ({ l with da := -1 }, false)

def hear (p : Pl) (l : Lk) : Lk :=
  match firstA p.n l.wo (l.se - l.kn).toNat (l.kn + 1) with
  | none => { l with wo := -1 }
  | some j => { l with kn := j, wo := -1 }

/-- The link behind an act, whether it may be done, and whether no wrong word is taken. -/
def step (p : Pl) (l : Lk) (c : Int) : Lk × Bool × Bool :=
  if c = 115 then (if l.da < 0 ∧ l.se < p.w ∧ l.se < l.kn + p.a then ({ l with da := l.se, se := l.se + 1 }, true, true) else (l, false, true))
  else if 48 ≤ c ∧ c ≤ 57 then (if l.da < 0 ∧ l.kn + (c - 48) < l.se then ({ l with da := l.kn + (c - 48) }, true, true) else (l, false, true))
  else if c = 100 then (if 0 ≤ l.da then ((arrive p l).1, true, (arrive p l).2) else (l, false, true))
  else if c = 120 then (if 0 ≤ l.da then ({ l with da := -1 }, true, true) else (l, false, true))
  else if c = 97 then (if 0 ≤ l.wo then (hear p l, true, true) else (l, false, true))
  else if c = 121 then (if 0 ≤ l.wo then ({ l with wo := -1 }, true, true) else (l, false, true))
  else (l, false, true)

def start : Lk := ⟨0, 0, 0, 0, -1, -1⟩

def okPlan (p : Pl) : Prop := 2 ≤ p.n ∧ p.n ≤ 4 ∧ 1 ≤ p.a ∧ p.a ≤ 4 ∧ 1 ≤ p.k ∧ p.k ≤ 4 ∧ 1 ≤ p.w ∧ p.w ≤ 5

/-- What holds of every link that acts lead to, of any plan. -/
structure G (p : Pl) (l : Lk) : Prop where
  (kn0 : 0 ≤ l.kn) (knse : l.kn ≤ l.se) (sew : l.se ≤ p.w) (du0 : 0 ≤ l.du) (duse : l.du ≤ l.se)
  (he0 : 0 ≤ l.he) (heK : l.he < 2 ^ p.k.toNat) (heE : l.he % 2 = 0) (heS : l.he < 2 ^ (l.se - l.du).toNat)
  (da0 : -1 ≤ l.da) (dase : l.da < l.se) (wo0 : -1 ≤ l.wo) (wodu : l.wo ≤ l.du)

theorem firstK_spec (n du word : Int) : ∀ (r : Nat) (k : Int) (q : Int), firstK n du word r k = some q → k ≤ q ∧ q < k + r ∧ (du + q) % n = word % n := by
  intro r
  induction r with
  | zero => intro k q h; simp [firstK] at h
  | succ r ih =>
    intro k q h
    simp only [firstK] at h
    split at h
    · cases h; rename_i hh; exact ⟨by omega, by omega, hh⟩
    · obtain ⟨a, b, c⟩ := ih _ _ h; exact ⟨by omega, by omega, c⟩

theorem firstA_spec (n wo : Int) : ∀ (r : Nat) (j q : Int), firstA n wo r j = some q → j ≤ q ∧ q < j + r ∧ q % n = wo % n := by
  intro r
  induction r with
  | zero => intro k q h; simp [firstA] at h
  | succ r ih =>
    intro k q h
    simp only [firstA] at h
    split at h
    · cases h; rename_i hh; exact ⟨by omega, by omega, hh⟩
    · obtain ⟨a, b, c⟩ := ih _ _ h; exact ⟨by omega, by omega, c⟩

theorem firstA_none (n wo : Int) : ∀ (r : Nat) (j : Int), firstA n wo r j = none → ∀ q, j ≤ q → q < j + r → q % n ≠ wo % n := by
  intro r
  induction r with
  | zero => intro j _ q h1 h2; omega
  | succ r ih =>
    intro j h q h1 h2
    simp only [firstA] at h
    split at h
    · cases h
    · rename_i hh
      by_cases e : q = j
      · subst e; exact hh
      · exact ih _ h q (by omega) (by omega)

/-- The bits are few: all that is asked of settle and setBit is a finite look. -/
theorem settle_fin : ∀ he : Fin 32, ∀ f : Fin 6, (settle 8 he.val (0 : Int)).1 % 2 = 0 ∧ 0 ≤ (settle 8 he.val (0 : Int)).1 ∧ 0 ≤ (settle 8 (he.val : Int) 0).2 ∧
    ((he.val : Int) < 2 ^ f.val → (settle 8 he.val (0 : Int)).2 ≤ f.val ∧ (settle 8 he.val (0 : Int)).1 < 2 ^ ((f.val : Int) - (settle 8 he.val (0 : Int)).2).toNat ∧ (settle 8 he.val (0 : Int)).1 ≤ he.val) := by decide +kernel

theorem settle_shift : ∀ (f : Nat) (he du : Int), settle f he du = ((settle f he 0).1, du + (settle f he 0).2) := by
  intro f
  induction f with
  | zero => intro he du; simp [settle]
  | succ f ih =>
    intro he du
    simp only [settle]
    split
    · rw [ih, ih _ (0 + 1)]; ext <;> simp <;> omega
    · simp

theorem setBit_fin : ∀ he : Fin 16, ∀ k : Fin 4, 0 ≤ setBit he.val k.val ∧ setBit (he.val : Int) k.val < 16 ∧
    (∀ f : Fin 6, (he.val : Int) < 2 ^ f.val → k.val < f.val → setBit (he.val : Int) k.val < 2 ^ f.val) := by decide +kernel

theorem settle_ok {he du : Int} {f : Nat} (h0 : 0 ≤ he) (h16 : he < 32) (hf : f ≤ 5) (hhf : he < 2 ^ f) :
    (settle 8 he du).1 % 2 = 0 ∧ 0 ≤ (settle 8 he du).1 ∧ (settle 8 he du).1 ≤ he ∧ du ≤ (settle 8 he du).2 ∧ (settle 8 he du).2 ≤ du + f ∧
    (settle 8 he du).1 < 2 ^ ((f : Int) - ((settle 8 he du).2 - du)).toNat := by
  have h := settle_fin ⟨he.toNat, by omega⟩ ⟨f, by omega⟩
  have e : ((he.toNat : Nat) : Int) = he := by omega
  simp only [e] at h
  rw [settle_shift]
  obtain ⟨a, b, c, d⟩ := h
  obtain ⟨d1, d2, d3⟩ := d hhf
  refine ⟨a, b, d3, by simp; omega, by simp; omega, ?_⟩
  simp only
  rw [show (du + (settle 8 he 0).2 - du) = (settle 8 he 0).2 by omega]
  exact d2

theorem pow_le16 {k : Int} (h1 : 1 ≤ k) (h4 : k ≤ 4) : (2 : Int) ^ k.toNat ≤ 16 := by
  have : k = 1 ∨ k = 2 ∨ k = 3 ∨ k = 4 := by omega
  rcases this with rfl | rfl | rfl | rfl <;> decide

theorem pow_mono {a b : Nat} (h : a ≤ b) : (2 : Int) ^ a ≤ 2 ^ b := by
  obtain ⟨c, rfl⟩ := Nat.exists_eq_add_of_le h
  rw [Int.pow_add]
  have h1 : (0 : Int) < 2 ^ c := Int.pow_pos (by decide)
  have h2 : (0 : Int) < 2 ^ a := Int.pow_pos (by decide)
  calc (2 : Int) ^ a = 2 ^ a * 1 := by omega
    _ ≤ 2 ^ a * 2 ^ c := Int.mul_le_mul_of_nonneg_left (by omega) (by omega)

theorem setBit_ok {he k : Int} {f : Nat} (h0 : 0 ≤ he) (h16 : he < 16) (k0 : 0 ≤ k) (k4 : k < 4) (hf : f ≤ 5) (hhf : he < 2 ^ f) (hkf : k < f) :
    0 ≤ setBit he k ∧ setBit he k < 16 ∧ setBit he k < 2 ^ f := by
  have h := setBit_fin ⟨he.toNat, by omega⟩ ⟨k.toNat, by omega⟩
  have e : ((he.toNat : Nat) : Int) = he := by omega
  have e2 : ((k.toNat : Nat) : Int) = k := by omega
  simp only [e, e2] at h
  exact ⟨h.1, h.2.1, h.2.2 ⟨f, by omega⟩ hhf (by show k.toNat < f; omega)⟩

theorem setBit_fin2 : ∀ he : Fin 16, ∀ k : Fin 4, ∀ K : Fin 5, (he.val : Int) < 2 ^ K.val → k.val < K.val → setBit (he.val : Int) k.val < 2 ^ K.val := by decide +kernel

theorem took_G {p : Pl} {l : Lk} (hp : okPlan p) (g : G p l) (he : Int) (h0 : 0 ≤ he) (hK : he < 2 ^ p.k.toNat) (hS : he < 2 ^ (l.se - l.du).toNat) : G p (took l he) := by
  obtain ⟨_, _, _, _, k1, k4, _, w5⟩ := hp
  have := pow_le16 k1 k4
  have hf5 : (l.se - l.du).toNat ≤ 5 := by have := g.du0; have := g.sew; omega
  obtain ⟨a, b, c, d, e, f⟩ := settle_ok (du := l.du) h0 (by omega) hf5 hS
  have q0 := g.du0; have q1 := g.duse; have q2 := g.wodu
  have hx : (((l.se - l.du).toNat : Int) - ((settle 8 he l.du).2 - l.du)).toNat = (l.se - (settle 8 he l.du).2).toNat := by omega
  rw [hx] at f
  exact { kn0 := g.kn0, knse := g.knse, sew := g.sew, du0 := by simp [took]; omega, duse := by simp [took]; omega, he0 := b, heK := by simp [took]; omega, heE := a, heS := f,
          da0 := by simp [took], dase := by simp [took]; have := g.kn0; have := g.knse; omega, wo0 := by simp [took]; omega, wodu := by simp [took] }

theorem arrive_G {p : Pl} {l : Lk} (hp : okPlan p) (g : G p l) (hd : 0 ≤ l.da) : G p (arrive p l).1 := by
  have hp' := hp
  obtain ⟨_, _, _, _, k1, k4, _, w5⟩ := hp
  have := pow_le16 k1 k4
  unfold arrive
  split
  · exact took_G hp' g _ g.he0 g.heK g.heS
  · rename_i k hk
    obtain ⟨a, b, c⟩ := firstK_spec _ _ _ _ _ _ hk
    split
    · rename_i e
      have q0 := g.du0; have q1 := g.duse; have q2 := g.dase; have q3 := g.he0; have q4 := g.heK; have q5 := g.sew
      obtain ⟨x, y, z⟩ := setBit_ok (k := k) g.he0 (by omega) (by omega) (by omega) (f := (l.se - l.du).toNat) (by omega) g.heS (by omega)
      have w := setBit_fin2 ⟨l.he.toNat, by omega⟩ ⟨k.toNat, by omega⟩ ⟨p.k.toNat, by omega⟩
      have e1 : ((l.he.toNat : Nat) : Int) = l.he := by omega
      have e2 : ((k.toNat : Nat) : Int) = k := by omega
      simp only [e1, e2] at w
      exact took_G hp' g _ x (w q4 (by omega)) z
    · exact { g with da0 := by simp, dase := by have := g.kn0; have := g.knse; show (-1 : Int) < l.se; omega }

theorem hear_G {p : Pl} {l : Lk} (g : G p l) : G p (hear p l) := by
  have q0 := g.knse; have q1 := g.kn0; have q2 := g.du0
  unfold hear
  split
  · exact { g with wo0 := by simp, wodu := by simp; omega }
  · rename_i j hj
    obtain ⟨a, b, c⟩ := firstA_spec _ _ _ _ _ hj
    exact { g with kn0 := by simp; omega, knse := by simp; omega, wo0 := by simp, wodu := by simp; omega }

theorem step_G {p : Pl} {l : Lk} (hp : okPlan p) (g : G p l) (c : Int) : G p (step p l c).1 := by
  have q0 := g.knse; have q1 := g.kn0; have q2 := g.du0; have q3 := g.sew; have q4 := g.duse; have q5 := g.heS; have q6 := g.dase
  have q7 := g.da0; have q8 := g.wo0; have q9 := g.wodu
  unfold step
  split
  · split
    · rename_i h
      exact { g with knse := by simp; omega, sew := by simp; omega, duse := by simp; omega, heS := by simp; exact Int.lt_of_lt_of_le q5 (pow_mono (by omega)), da0 := by simp; omega, dase := by simp; omega }
    · exact g
  · split
    · split
      · rename_i h
        exact { g with da0 := by simp; omega, dase := by simp; omega }
      · exact g
    · split
      · split
        · exact arrive_G hp g (by assumption)
        · exact g
      · split
        · split
          · exact { g with da0 := by simp, dase := by simp; omega }
          · exact g
        · split
          · split
            · exact hear_G g
            · exact g
          · split
            · split
              · exact { g with wo0 := by simp, wodu := by simp; omega }
              · exact g
            · exact g

theorem start_G {p : Pl} (hp : okPlan p) : G p start := by
  obtain ⟨_, _, _, _, k1, k4, w1, w5⟩ := hp
  have h1 : (0 : Int) < 2 ^ p.k.toNat := Int.pow_pos (by decide)
  exact ⟨by simp [start], by simp [start], by simp [start]; omega, by simp [start], by simp [start], by simp [start], by simp [start]; exact h1, by simp [start], by simp [start], by simp [start], by simp [start], by simp [start], by simp [start]⟩

end Win

theorem w64 {n : Int} (h0 : -9223372036854775808 ≤ n) (h1 : n ≤ 9223372036854775807) : wrap64 n = n := by unfold wrap64; omega
theorem bsome {α β : Type} (a : α) (f : α → Option β) : (some a).bind f = f a := rfl

theorem power_some (x : Int) (h0 : 0 ≤ x) (h5 : x ≤ 5) (k : Nat) (hk : 7 ≤ k) : spec_power.f k x = some (2 ^ x.toNat) := by
  obtain ⟨m, rfl⟩ : ∃ m, k = m + 7 := ⟨k - 7, by omega⟩
  have : x = 0 ∨ x = 1 ∨ x = 2 ∨ x = 3 ∨ x = 4 ∨ x = 5 := by omega
  rcases this with rfl | rfl | rfl | rfl | rfl | rfl <;> simp [spec_power.f, spec_power.l0, wrap64]
theorem pow_le32 {x : Int} (h5 : x ≤ 5) : 0 < (2 : Int) ^ x.toNat ∧ (2 : Int) ^ x.toNat ≤ 32 := by
  by_cases h0 : 0 ≤ x
  · have : x = 0 ∨ x = 1 ∨ x = 2 ∨ x = 3 ∨ x = 4 ∨ x = 5 := by omega
    rcases this with rfl | rfl | rfl | rfl | rfl | rfl <;> decide
  · rw [show x.toNat = 0 by omega]; decide
theorem bit_some (he x : Int) (h0 : 0 ≤ he) (h1 : he ≤ 1000) (x0 : 0 ≤ x) (x5 : x ≤ 5) (k : Nat) (hk : 7 ≤ k) : spec_bit.f k he x = some (he / 2 ^ x.toNat % 2) := by
  obtain ⟨p0, p1⟩ := pow_le32 x5
  unfold spec_bit.f
  rw [power_some x x0 x5 k hk, bsome, if_neg (by omega)]
  rw [Int.tdiv_eq_ediv_of_nonneg h0]
  have a : 0 ≤ he / 2 ^ x.toNat := Int.ediv_nonneg h0 (by omega)
  have b : he / 2 ^ x.toNat ≤ he := Int.ediv_le_self _ h0
  rw [w64 (by omega) (by omega), Int.tmod_eq_emod_of_nonneg a]

theorem orBit : ∀ he : Fin 16, ∀ k : Fin 4, Go.bits .or .i64 (he.val : Int) (shl .i64 1 (k.val : Int)) = Win.setBit he.val k.val := by decide +kernel
theorem orBit' (he k : Int) (h0 : 0 ≤ he) (h1 : he < 16) (k0 : 0 ≤ k) (k4 : k < 4) : Go.bits .or .i64 he (shl .i64 1 k) = Win.setBit he k := by
  have h := orBit ⟨he.toNat, by omega⟩ ⟨k.toNat, by omega⟩
  simpa only [Int.toNat_of_nonneg h0, Int.toNat_of_nonneg k0] using h

theorem take_l1 : ∀ (f : Nat) (he du : Int) (k : Nat) (kn se da wo : Int), 0 ≤ he → he < 2 ^ f → f < k → 0 ≤ du → du + f ≤ 1000 → f ≤ 10 →
    spec_take.l1 k kn se du he da wo = some (kn, se, (Win.settle f he du).2, (Win.settle f he du).1, da, (Win.settle f he du).2, true) := by
  intro f
  induction f with
  | zero =>
    intro he du k kn se da wo h0 h1 hk _ _ _
    obtain ⟨k, rfl⟩ : ∃ m, k = m + 1 := ⟨k - 1, by omega⟩
    have : he = 0 := by simp at h1; omega
    subst this
    simp only [spec_take.l1, Win.settle]
    rw [if_neg (by decide)]
  | succ f ih =>
    intro he du k kn se da wo h0 h1 hk hd hdf hf
    obtain ⟨k, rfl⟩ : ∃ m, k = m + 1 := ⟨k - 1, by omega⟩
    simp only [spec_take.l1, Win.settle]
    rw [Int.tmod_eq_emod_of_nonneg h0, Int.tdiv_eq_ediv_of_nonneg h0]
    have hb : he < 2048 := by
      have := Win.pow_mono (show f + 1 ≤ 11 by omega)
      have e : (2 : Int) ^ 11 = 2048 := by decide
      omega
    by_cases ho : he % 2 = 1
    · rw [if_pos ho, if_pos ho, w64 (n := du + 1) (by omega) (by omega), w64 (n := he / 2) (by omega) (by omega)]
      rw [Int.pow_succ] at h1
      exact ih _ _ _ _ _ _ _ (by omega) (by omega) (by omega) (by omega) (by omega) (by omega)
    · rw [if_neg ho, if_neg ho]
theorem arr_l1 : ∀ (f : Nat) (he du : Int) (k : Nat) (kn se da wo : Int), 0 ≤ he → he < 2 ^ f → f < k → 0 ≤ du → du + f ≤ 1000 → f ≤ 10 →
    impl_arrived.l1 k kn se du he da wo = some (kn, se, (Win.settle f he du).2, (Win.settle f he du).1, da, (Win.settle f he du).2, true, true) := by
  intro f
  induction f with
  | zero =>
    intro he du k kn se da wo h0 h1 hk _ _ _
    obtain ⟨k, rfl⟩ : ∃ m, k = m + 1 := ⟨k - 1, by omega⟩
    have : he = 0 := by simp at h1; omega
    subst this
    simp only [impl_arrived.l1, Win.settle]
    rw [if_neg (by decide)]
  | succ f ih =>
    intro he du k kn se da wo h0 h1 hk hd hdf hf
    obtain ⟨k, rfl⟩ : ∃ m, k = m + 1 := ⟨k - 1, by omega⟩
    simp only [impl_arrived.l1, Win.settle]
    rw [Int.tmod_eq_emod_of_nonneg h0, Int.tdiv_eq_ediv_of_nonneg h0]
    have hb : he < 2048 := by
      have := Win.pow_mono (show f + 1 ≤ 11 by omega)
      have e : (2 : Int) ^ 11 = 2048 := by decide
      omega
    by_cases ho : he % 2 = 1
    · rw [if_pos ho, if_pos ho, w64 (n := du + 1) (by omega) (by omega), w64 (n := he / 2) (by omega) (by omega)]
      rw [Int.pow_succ] at h1
      exact ih _ _ _ _ _ _ _ (by omega) (by omega) (by omega) (by omega) (by omega) (by omega)
    · rw [if_neg ho, if_neg ho]

def tk (kn se du he wo : Int) (word : Int) : Option Int → Int × Int × Int × Int × Int × Int × Bool
  | none => (kn, se, (Win.settle 8 he du).2, (Win.settle 8 he du).1, -1, (Win.settle 8 he du).2, true)
  | some q => if du + q = word then (kn, se, (Win.settle 8 (Win.setBit he q) du).2, (Win.settle 8 (Win.setBit he q) du).1, -1, (Win.settle 8 (Win.setBit he q) du).2, true)
    else (kn, se, du, he, -1, wo, false)

theorem setBit_lt {he q : Int} (h0 : 0 ≤ he) (h1 : he < 16) (q0 : 0 ≤ q) (q4 : q < 4) : 0 ≤ Win.setBit he q ∧ Win.setBit he q < 16 := by
  have h := Win.setBit_fin ⟨he.toNat, by omega⟩ ⟨q.toNat, by omega⟩
  simp only [Int.toNat_of_nonneg h0, Int.toNat_of_nonneg q0] at h
  exact ⟨h.1, h.2.1⟩

theorem take_l0 (n a kk w kn se du he wo word : Int) (hn : 0 < n) (hkk : kk ≤ 4) (hd : 0 ≤ du) (hd9 : du ≤ 900) (h0 : 0 ≤ he) (h16 : he < 16) (hw : 0 ≤ word) :
    ∀ (r : Nat) (x : Int) (k : Nat), x + r = kk → 0 ≤ x → r + 20 ≤ k → spec_take.l0 k word x n a kk w kn se du he (-1) wo = some (tk kn se du he wo word (Win.firstK n du word r x)) := by
  intro r
  induction r with
  | zero =>
    intro x k hx x0 hk
    obtain ⟨k, rfl⟩ : ∃ m, k = m + 1 := ⟨k - 1, by omega⟩
    simp only [spec_take.l0, Win.firstK]
    rw [if_neg (by omega)]
    obtain ⟨k, rfl⟩ : ∃ m, k = m + 1 := ⟨k - 1, by omega⟩
    simp only [spec_take.j1]
    exact take_l1 8 _ _ _ _ _ _ _ h0 (by simp; omega) (by omega) hd (by omega) (by omega)
  | succ r ih =>
    intro x k hx x0 hk
    obtain ⟨k, rfl⟩ : ∃ m, k = m + 1 := ⟨k - 1, by omega⟩
    simp only [spec_take.l0, Win.firstK]
    rw [if_pos (by omega), if_neg (by omega), w64 (n := du + x) (by omega) (by omega), Int.tmod_eq_emod_of_nonneg (by omega), Int.tmod_eq_emod_of_nonneg hw]
    by_cases he1 : (du + x) % n = word % n
    · rw [if_pos he1, if_pos he1]
      simp only [tk]
      by_cases he2 : du + x = word
      · rw [if_pos he2, if_pos he2, bit_some he x h0 (by omega) x0 (by omega) k (by omega), bsome, power_some x x0 (by omega) k (by omega)]
        have hs := setBit_lt h0 h16 x0 (by omega)
        have key : ∀ z, z = Win.setBit he x → spec_take.j1 k kn se du z (-1) wo = some (kn, se, (Win.settle 8 (Win.setBit he x) du).2, (Win.settle 8 (Win.setBit he x) du).1, -1, (Win.settle 8 (Win.setBit he x) du).2, true) := by
          intro z hz
          obtain ⟨k, rfl⟩ : ∃ m, k = m + 1 := ⟨k - 1, by omega⟩
          simp only [spec_take.j1]
          rw [hz]
          exact take_l1 8 _ _ _ _ _ _ _ hs.1 (by simp; omega) (by omega) hd (by omega) (by omega)
        have p := pow_le32 (x := x) (by omega)
        by_cases hb : he / 2 ^ x.toNat % 2 = 0
        · rw [if_pos hb, bsome]
          exact key _ (by rw [w64 (by omega) (by omega)]; unfold Win.setBit; rw [if_neg (by omega)])
        · rw [if_neg hb]
          exact key _ (by unfold Win.setBit; rw [if_pos (by omega)])
      · rw [if_neg he2, if_neg he2]
    · rw [if_neg he1, if_neg he1, w64 (n := x + 1) (by omega) (by omega)]
      exact ih _ _ (by omega) (by omega) (by omega)
def tk2 (r : Int × Int × Int × Int × Int × Int × Bool) : Int × Int × Int × Int × Int × Int × Bool × Bool := (r.1, r.2.1, r.2.2.1, r.2.2.2.1, r.2.2.2.2.1, r.2.2.2.2.2.1, true, r.2.2.2.2.2.2)
theorem arr_l0 (n a kk w kn se du he wo word : Int) (hn : 0 < n) (hkk : kk ≤ 4) (hd : 0 ≤ du) (hd9 : du ≤ 900) (h0 : 0 ≤ he) (h16 : he < 16) (hw : 0 ≤ word) :
    ∀ (r : Nat) (x : Int) (k : Nat), x + r = kk → 0 ≤ x → r + 20 ≤ k → impl_arrived.l0 k word kk x n a kk w kn se du he (-1) wo = some (tk2 (tk kn se du he wo word (Win.firstK n du word r x))) := by
  intro r
  induction r with
  | zero =>
    intro x k hx x0 hk
    obtain ⟨k, rfl⟩ : ∃ m, k = m + 1 := ⟨k - 1, by omega⟩
    simp only [impl_arrived.l0, Win.firstK]
    rw [if_neg (by omega)]
    obtain ⟨k, rfl⟩ : ∃ m, k = m + 1 := ⟨k - 1, by omega⟩
    simp only [impl_arrived.j1]
    exact arr_l1 8 _ _ _ _ _ _ _ h0 (by simp; omega) (by omega) hd (by omega) (by omega)
  | succ r ih =>
    intro x k hx x0 hk
    obtain ⟨k, rfl⟩ : ∃ m, k = m + 1 := ⟨k - 1, by omega⟩
    simp only [impl_arrived.l0, Win.firstK]
    rw [if_pos (by omega), if_neg (by omega), w64 (n := du + x) (by omega) (by omega), Int.tmod_eq_emod_of_nonneg (by omega), Int.tmod_eq_emod_of_nonneg hw]
    by_cases he1 : (du + x) % n = word % n
    · rw [if_pos he1, if_pos he1]
      simp only [tk]
      by_cases he2 : du + x = word
      · rw [if_pos he2, if_pos he2, if_pos x0]
        have hs := setBit_lt h0 h16 x0 (by omega)
        obtain ⟨k, rfl⟩ : ∃ m, k = m + 1 := ⟨k - 1, by omega⟩
        simp only [impl_arrived.j1]
        rw [orBit' he x h0 h16 x0 (by omega)]
        exact arr_l1 8 _ _ _ _ _ _ _ hs.1 (by simp; omega) (by omega) hd (by omega) (by omega)
      · rw [if_neg he2, if_neg he2]; rfl
    · rw [if_neg he1, if_neg he1, w64 (n := x + 1) (by omega) (by omega)]
      exact ih _ _ (by omega) (by omega) (by omega)

def pk (r : Win.Lk × Bool × Bool) : Int × Int × Int × Int × Int × Int × Bool × Bool := (r.1.kn, r.1.se, r.1.du, r.1.he, r.1.da, r.1.wo, r.2.1, r.2.2)
theorem tk_arrive (p : Win.Pl) (l : Win.Lk) : tk2 (tk l.kn l.se l.du l.he l.wo l.da (Win.firstK p.n l.du l.da p.k.toNat 0)) = pk ((Win.arrive p l).1, true, (Win.arrive p l).2) := by
  unfold Win.arrive
  generalize Win.firstK p.n l.du l.da p.k.toNat 0 = o
  cases o with
  | none => rfl
  | some q =>
    simp only [tk]
    split <;> rfl

theorem hear_l0 (n a kk w kn se du he da wo : Int) (hn : 0 < n) (h0 : 0 ≤ kn) (hs : se ≤ 900) (hw : 0 ≤ wo) :
    ∀ (r : Nat) (x : Int) (k : Nat), 1 ≤ x → x + r = se - kn + 1 → r < k → spec_hear.l0 k wo x n a kk w kn se du he da (-1) =
      some ((match Win.firstA n wo r (kn + x) with | none => kn | some j => j), se, du, he, da, -1) := by
  intro r
  induction r with
  | zero =>
    intro x k x1 hx hk
    obtain ⟨k, rfl⟩ : ∃ m, k = m + 1 := ⟨k - 1, by omega⟩
    simp only [spec_hear.l0, Win.firstA]
    rw [w64 (n := se - kn) (by omega) (by omega), if_neg (by omega)]
  | succ r ih =>
    intro x k x1 hx hk
    obtain ⟨k, rfl⟩ : ∃ m, k = m + 1 := ⟨k - 1, by omega⟩
    simp only [spec_hear.l0, Win.firstA]
    rw [w64 (n := se - kn) (by omega) (by omega), if_pos (by omega), if_neg (by omega), w64 (n := kn + x) (by omega) (by omega), Int.tmod_eq_emod_of_nonneg (by omega), Int.tmod_eq_emod_of_nonneg hw]
    by_cases he1 : (kn + x) % n = wo % n
    · rw [if_pos he1, if_pos he1]
    · rw [if_neg he1, if_neg he1, w64 (n := x + 1) (by omega) (by omega), ih _ _ (by omega) (by omega) (by omega), show kn + (x + 1) = kn + x + 1 by omega]
theorem acted_l0 (n a kk w kn se du he da wo : Int) (hn : 0 < n) (h0 : 0 ≤ kn) (hs : se ≤ 900) (hw : 0 ≤ wo) :
    ∀ (r : Nat) (x : Int) (k : Nat), 0 ≤ x → x + r = se + 1 → r < k → impl_acted.l0 k x n a kk w kn se du he da wo =
      some ((match Win.firstA n wo r x with | none => kn | some j => j), se, du, he, da, -1, true, true) := by
  intro r
  induction r with
  | zero =>
    intro x k x1 hx hk
    obtain ⟨k, rfl⟩ : ∃ m, k = m + 1 := ⟨k - 1, by omega⟩
    simp only [impl_acted.l0, Win.firstA]
    rw [if_neg (by omega)]
  | succ r ih =>
    intro x k x1 hx hk
    obtain ⟨k, rfl⟩ : ∃ m, k = m + 1 := ⟨k - 1, by omega⟩
    simp only [impl_acted.l0, Win.firstA]
    rw [if_pos (by omega), if_neg (by omega), Int.tmod_eq_emod_of_nonneg (by omega), Int.tmod_eq_emod_of_nonneg hw]
    by_cases he1 : x % n = wo % n
    · rw [if_pos he1, if_pos he1]
    · rw [if_neg he1, if_neg he1, w64 (n := x + 1) (by omega) (by omega), ih _ _ (by omega) (by omega) (by omega)]
theorem hear_pk (p : Win.Pl) (l : Win.Lk) : (((match Win.firstA p.n l.wo (l.se - l.kn).toNat (l.kn + 1) with | none => l.kn | some j => j), l.se, l.du, l.he, l.da, -1, true, true) : Int × Int × Int × Int × Int × Int × Bool × Bool) = pk (Win.hear p l, true, true) := by
  unfold Win.hear
  generalize Win.firstA p.n l.wo (l.se - l.kn).toNat (l.kn + 1) = o
  cases o <;> rfl

theorem G_small {p : Win.Pl} {l : Win.Lk} (hp : Win.okPlan p) (g : Win.G p l) : l.he < 16 ∧ l.kn ≤ 5 ∧ l.se ≤ 5 ∧ l.du ≤ 5 ∧ l.da ≤ 5 ∧ l.wo ≤ 5 := by
  obtain ⟨n2, n4, a1, a4, k1, k4, w1, w5⟩ := hp
  have := Win.pow_le16 k1 k4
  obtain ⟨g1, g2, g3, g4, g5, g6, g7, g8, g9, g10, g11, g12, g13⟩ := g
  omega

theorem spec_step_j0 {p : Win.Pl} {l : Win.Lk} (hp : Win.okPlan p) (g : Win.G p l) (c : Int) (hc : c ≠ 115) (k : Nat) (hk : 40 ≤ k) (b : Bool) (hb : b = decide (48 ≤ c ∧ c ≤ 57)) :
    spec_step.j0 k c c b p.n p.a p.k p.w l.kn l.se l.du l.he l.da l.wo = some (pk (Win.step p l c)) := by
  have sm := G_small hp g
  have hp' := hp
  obtain ⟨n2, n4, a1, a4, k1, k4, w1, w5⟩ := hp'
  have g' := g
  obtain ⟨g1, g2, g3, g4, g5, g6, g7, g8, g9, g10, g11, g12, g13⟩ := g'
  obtain ⟨k, rfl⟩ : ∃ m, k = m + 1 := ⟨k - 1, by omega⟩
  simp only [spec_step.j0, Win.step]
  rw [if_neg hc]
  subst hb
  by_cases hd : 48 ≤ c ∧ c ≤ 57
  · rw [if_pos (by simpa using hd), if_pos hd]
    have e : (c - 48) % 256 = c - 48 := by omega
    rw [e, w64 (by omega) (by omega)]
    by_cases h1 : l.da ≥ 0
    · rw [if_pos h1, if_neg (by omega)]; rfl
    · rw [if_neg h1]
      by_cases h2 : l.kn + (c - 48) ≥ l.se
      · rw [if_pos h2, if_neg (by omega)]; rfl
      · rw [if_neg h2, if_pos (by omega)]; rfl
  · rw [if_neg (by simpa using hd), if_neg hd]
    by_cases c1 : c = 100
    · rw [if_pos c1, if_pos c1]
      by_cases h1 : l.da < 0
      · rw [if_pos h1, if_neg (by omega)]; rfl
      · rw [if_neg h1, if_pos (by omega)]
        unfold spec_take.f
        rw [take_l0 p.n p.a p.k p.w l.kn l.se l.du l.he l.wo l.da (by omega) k4 g4 (by omega) g6 (by omega) (by omega) p.k.toNat 0 k (by omega) (by omega) (by omega), bsome, ← tk_arrive]
        rfl
    · rw [if_neg c1, if_neg c1]
      by_cases c2 : c = 120
      · rw [if_pos c2, if_pos c2]
        by_cases h1 : l.da < 0
        · rw [if_pos h1, if_neg (by omega)]; rfl
        · rw [if_neg h1, if_pos (by omega)]; rfl
      · rw [if_neg c2, if_neg c2]
        by_cases c3 : c = 97
        · rw [if_pos c3, if_pos c3]
          by_cases h1 : l.wo < 0
          · rw [if_pos h1, if_neg (by omega)]; rfl
          · rw [if_neg h1, if_pos (by omega)]
            unfold spec_hear.f
            rw [hear_l0 p.n p.a p.k p.w l.kn l.se l.du l.he l.da l.wo (by omega) g1 (by omega) (by omega) (l.se - l.kn).toNat 1 k (by omega) (by omega) (by omega), bsome, ← hear_pk]
        · rw [if_neg c3, if_neg c3]
          by_cases c4 : c = 121
          · rw [if_pos c4, if_pos c4]
            by_cases h1 : l.wo < 0
            · rw [if_pos h1, if_neg (by omega)]; rfl
            · rw [if_neg h1, if_pos (by omega)]; rfl
          · rw [if_neg c4, if_neg c4]; rfl

theorem spec_step_eq {p : Win.Pl} {l : Win.Lk} (hp : Win.okPlan p) (g : Win.G p l) (c : Int) (k : Nat) (hk : 40 ≤ k) :
    spec_step.f k p.n p.a p.k p.w l.kn l.se l.du l.he l.da l.wo c = some (pk (Win.step p l c)) := by
  have sm := G_small hp g
  have hp' := hp
  obtain ⟨n2, n4, a1, a4, k1, k4, w1, w5⟩ := hp'
  have g' := g
  obtain ⟨g1, g2, g3, g4, g5, g6, g7, g8, g9, g10, g11, g12, g13⟩ := g'
  unfold spec_step.f
  by_cases c0 : c = 115
  · rw [if_pos c0]
    unfold Win.step
    rw [if_pos c0, w64 (n := l.kn + p.a) (by omega) (by omega), w64 (n := l.se + 1) (by omega) (by omega)]
    by_cases h1 : l.da ≥ 0
    · rw [if_pos h1, if_neg (by omega)]; rfl
    · rw [if_neg h1]
      by_cases h2 : l.se ≥ p.w
      · rw [if_pos h2, if_neg (by omega)]; rfl
      · rw [if_neg h2]
        by_cases h3 : l.se ≥ l.kn + p.a
        · rw [if_pos h3, if_neg (by omega)]; rfl
        · rw [if_neg h3, if_pos (by omega)]; rfl
  · rw [if_neg c0]
    have J := fun b hb => spec_step_j0 hp g c c0 k hk b hb
    by_cases d0 : c = 48
    · rw [if_pos d0]; exact J _ (by subst d0; rfl)
    rw [if_neg d0]
    by_cases d1 : c = 49
    · rw [if_pos d1]; exact J _ (by subst d1; rfl)
    rw [if_neg d1]
    by_cases d2 : c = 50
    · rw [if_pos d2]; exact J _ (by subst d2; rfl)
    rw [if_neg d2]
    by_cases d3 : c = 51
    · rw [if_pos d3]; exact J _ (by subst d3; rfl)
    rw [if_neg d3]
    by_cases d4 : c = 52
    · rw [if_pos d4]; exact J _ (by subst d4; rfl)
    rw [if_neg d4]
    by_cases d5 : c = 53
    · rw [if_pos d5]; exact J _ (by subst d5; rfl)
    rw [if_neg d5]
    by_cases d6 : c = 54
    · rw [if_pos d6]; exact J _ (by subst d6; rfl)
    rw [if_neg d6]
    by_cases d7 : c = 55
    · rw [if_pos d7]; exact J _ (by subst d7; rfl)
    rw [if_neg d7]
    by_cases d8 : c = 56
    · rw [if_pos d8]; exact J _ (by subst d8; rfl)
    rw [if_neg d8]
    refine J _ ?_
    by_cases d9 : c = 57
    · subst d9; rfl
    · rw [decide_eq_false (by omega)]; simpa using d9

theorem impl_acted_eq {p : Win.Pl} {l : Win.Lk} (hp : Win.okPlan p) (g : Win.G p l) (c : Int) (k : Nat) (hk : 40 ≤ k) :
    impl_acted.f k p.n p.a p.k p.w l.kn l.se l.du l.he l.da l.wo c = some (pk (Win.step p l c)) := by
  have sm := G_small hp g
  have hp' := hp
  obtain ⟨n2, n4, a1, a4, k1, k4, w1, w5⟩ := hp'
  have g' := g
  obtain ⟨g1, g2, g3, g4, g5, g6, g7, g8, g9, g10, g11, g12, g13⟩ := g'
  have J0 : ∀ b : Bool, b = decide (c = 115 ∧ l.da < 0 ∧ l.se < p.w ∧ l.se < l.kn + p.a) → impl_acted.j0 k c b p.n p.a p.k p.w l.kn l.se l.du l.he l.da l.wo = some (pk (Win.step p l c)) := by
    intro b hb
    obtain ⟨k, rfl⟩ : ∃ m, k = m + 1 := ⟨k - 1, by omega⟩
    simp only [impl_acted.j0, Win.step]
    subst hb
    by_cases c0 : c = 115 ∧ l.da < 0 ∧ l.se < p.w ∧ l.se < l.kn + p.a
    · rw [if_pos (by simpa using c0), if_pos c0.1, if_pos c0.2, w64 (by omega) (by omega)]; rfl
    · rw [if_neg (by simpa using c0)]
      have J1 : ∀ b : Bool, b = decide (48 ≤ c ∧ c ≤ 57 ∧ l.da < 0 ∧ l.kn + (c - 48) < l.se) → impl_acted.j1 k c b p.n p.a p.k p.w l.kn l.se l.du l.he l.da l.wo = some (pk (Win.step p l c)) := by
        intro b hb
        obtain ⟨k, rfl⟩ : ∃ m, k = m + 1 := ⟨k - 1, by omega⟩
        simp only [impl_acted.j1, Win.step]
        subst hb
        by_cases c1 : 48 ≤ c ∧ c ≤ 57 ∧ l.da < 0 ∧ l.kn + (c - 48) < l.se
        · rw [if_pos (by simpa using c1), if_neg (show c ≠ 115 by omega), if_pos (show 48 ≤ c ∧ c ≤ 57 by omega), if_pos (show l.da < 0 ∧ l.kn + (c - 48) < l.se by omega)]
          have e : (c - 48) % 256 = c - 48 := by omega
          rw [e, w64 (by omega) (by omega)]; rfl
        · rw [if_neg (by simpa using c1)]
          have J2 : ∀ b : Bool, b = decide (c = 100 ∧ 0 ≤ l.da) → impl_acted.j2 k c b p.n p.a p.k p.w l.kn l.se l.du l.he l.da l.wo = some (pk (Win.step p l c)) := by
            intro b hb
            obtain ⟨k, rfl⟩ : ∃ m, k = m + 1 := ⟨k - 1, by omega⟩
            simp only [impl_acted.j2, Win.step]
            subst hb
            by_cases c2 : c = 100 ∧ 0 ≤ l.da
            · rw [if_pos (by simpa using c2), if_neg (show c ≠ 115 by omega), if_neg (show ¬ (48 ≤ c ∧ c ≤ 57) by omega), if_pos c2.1, if_pos c2.2]
              unfold impl_arrived.f
              rw [arr_l0 p.n p.a p.k p.w l.kn l.se l.du l.he l.wo l.da (by omega) k4 g4 (by omega) g6 (by omega) (by omega) p.k.toNat 0 k (by omega) (by omega) (by omega), bsome, ← tk_arrive]
            · rw [if_neg (by simpa using c2)]
              have J3 : ∀ b : Bool, b = decide (c = 120 ∧ 0 ≤ l.da) → impl_acted.j3 k c b p.n p.a p.k p.w l.kn l.se l.du l.he l.da l.wo = some (pk (Win.step p l c)) := by
                intro b hb
                obtain ⟨k, rfl⟩ : ∃ m, k = m + 1 := ⟨k - 1, by omega⟩
                simp only [impl_acted.j3, Win.step]
                subst hb
                by_cases c3 : c = 120 ∧ 0 ≤ l.da
                · rw [if_pos (by simpa using c3), if_neg (show c ≠ 115 by omega), if_neg (show ¬ (48 ≤ c ∧ c ≤ 57) by omega), if_neg (show c ≠ 100 by omega), if_pos c3.1, if_pos c3.2]; rfl
                · rw [if_neg (by simpa using c3)]
                  have J4 : ∀ b : Bool, b = decide (c = 97 ∧ 0 ≤ l.wo) → impl_acted.j4 k c b p.n p.a p.k p.w l.kn l.se l.du l.he l.da l.wo = some (pk (Win.step p l c)) := by
                    intro b hb
                    obtain ⟨k, rfl⟩ : ∃ m, k = m + 1 := ⟨k - 1, by omega⟩
                    simp only [impl_acted.j4, Win.step]
                    subst hb
                    by_cases c4 : c = 97 ∧ 0 ≤ l.wo
                    · rw [if_pos (by simpa using c4), if_neg (show c ≠ 115 by omega), if_neg (show ¬ (48 ≤ c ∧ c ≤ 57) by omega), if_neg (show c ≠ 100 by omega), if_neg (show c ≠ 120 by omega), if_pos c4.1, if_pos c4.2]
                      rw [w64 (n := l.kn + 1) (by omega) (by omega), acted_l0 p.n p.a p.k p.w l.kn l.se l.du l.he l.da l.wo (by omega) g1 (by omega) (by omega) (l.se - l.kn).toNat (l.kn + 1) k (by omega) (by omega) (by omega), ← hear_pk]
                    · rw [if_neg (by simpa using c4)]
                      have fin : ∀ x : Int × Int × Int × Int × Int × Int × Bool × Bool, x = pk (l, false, true) → c ≠ 121 ∨ ¬ 0 ≤ l.wo → some x = some (pk (Win.step p l c)) := by
                        intro x hx hc
                        subst hx
                        unfold Win.step
                        by_cases z0 : c = 115
                        · rw [if_pos z0, if_neg (by omega)]
                        rw [if_neg z0]
                        by_cases z1 : 48 ≤ c ∧ c ≤ 57
                        · rw [if_pos z1, if_neg (by omega)]
                        rw [if_neg z1]
                        by_cases z2 : c = 100
                        · rw [if_pos z2, if_neg (by omega)]
                        rw [if_neg z2]
                        by_cases z3 : c = 120
                        · rw [if_pos z3, if_neg (by omega)]
                        rw [if_neg z3]
                        by_cases z4 : c = 97
                        · rw [if_pos z4, if_neg (by omega)]
                        rw [if_neg z4]
                        by_cases z5 : c = 121
                        · rw [if_pos z5, if_neg (by omega)]
                        rw [if_neg z5]
                      by_cases z5 : c = 121
                      · rw [if_pos z5]
                        by_cases z6 : l.wo ≥ 0
                        · rw [if_pos z6, if_neg (show c ≠ 115 by omega), if_neg (show ¬ (48 ≤ c ∧ c ≤ 57) by omega), if_neg (show c ≠ 100 by omega), if_neg (show c ≠ 120 by omega), if_neg (show c ≠ 97 by omega), if_pos z5, if_pos z6]; rfl
                        · rw [if_neg z6]; exact fin _ rfl (Or.inr z6)
                      · rw [if_neg z5]; exact fin _ rfl (Or.inl z5)
                  by_cases z : c = 97
                  · rw [if_pos z]; exact J4 _ (by simp [z])
                  · rw [if_neg z]; exact J4 _ (by simp [z])
              by_cases z : c = 120
              · rw [if_pos z]; exact J3 _ (by simp [z])
              · rw [if_neg z]; exact J3 _ (by simp [z])
          by_cases z : c = 100
          · rw [if_pos z]; exact J2 _ (by simp [z])
          · rw [if_neg z]; exact J2 _ (by simp [z])
      by_cases z : c ≥ 48
      · rw [if_pos z]
        by_cases z2 : c ≤ 57
        · rw [if_pos z2]
          by_cases z3 : l.da < 0
          · rw [if_pos z3]
            have e : (c - 48) % 256 = c - 48 := by omega
            rw [e, w64 (by omega) (by omega)]
            exact J1 _ (by rw [decide_eq_decide]; omega)
          · rw [if_neg z3]; exact J1 _ (by rw [eq_comm, decide_eq_false_iff_not]; omega)
        · rw [if_neg z2]; exact J1 _ (by rw [eq_comm, decide_eq_false_iff_not]; omega)
      · rw [if_neg z]; exact J1 _ (by rw [eq_comm, decide_eq_false_iff_not]; omega)
  unfold impl_acted.f
  by_cases z : c = 115
  · rw [if_pos z]
    by_cases z2 : l.da < 0
    · rw [if_pos z2]
      by_cases z3 : l.se < p.w
      · rw [if_pos z3, w64 (by omega) (by omega)]
        exact J0 _ (by rw [decide_eq_decide]; omega)
      · rw [if_neg z3]; exact J0 _ (by rw [eq_comm, decide_eq_false_iff_not]; omega)
    · rw [if_neg z2]; exact J0 _ (by rw [eq_comm, decide_eq_false_iff_not]; omega)
  · rw [if_neg z]; exact J0 _ (by rw [eq_comm, decide_eq_false_iff_not]; omega)

theorem within_some (x a b : Int) : spec_inRange.f x a b = some (decide (a ≤ x ∧ x ≤ b)) := by
  unfold spec_inRange.f
  by_cases h : a ≤ x
  · rw [if_pos h]; simp [h]
  · rw [if_neg h]; simp [h]
theorem plan_both (p : Win.Pl) : ∃ b : Bool, spec_validPlan.f p.n p.a p.k p.w = some b ∧ impl_ValidPlan.f p.n p.a p.k p.w = some b ∧ (b = true → Win.okPlan p) := by
  have e : impl_ValidPlan.f p.n p.a p.k p.w = spec_validPlan.f p.n p.a p.k p.w := rfl
  rw [e]
  unfold spec_validPlan.f
  simp only [within_some, bsome, decide_eq_true_eq]
  by_cases h1 : 2 ≤ p.n ∧ p.n ≤ 4
  · rw [if_pos h1]
    by_cases h2 : 1 ≤ p.a ∧ p.a ≤ 4
    · rw [if_pos h2]
      by_cases h3 : 1 ≤ p.k ∧ p.k ≤ 4
      · rw [if_pos h3]
        exact ⟨_, rfl, rfl, fun h => ⟨h1.1, h1.2, h2.1, h2.2, h3.1, h3.2, (of_decide_eq_true h).1, (of_decide_eq_true h).2⟩⟩
      · rw [if_neg h3]; exact ⟨false, rfl, rfl, by simp⟩
    · rw [if_neg h2]; exact ⟨false, rfl, rfl, by simp⟩
  · rw [if_neg h1]; exact ⟨false, rfl, rfl, by simp⟩
theorem eqLink_same (a b c d e f : Int) : laws_eqLink.f a b c d e f a b c d e f = some true := by simp [laws_eqLink.f]

end Go.Proofs.Ythipginmgmmdcaa.Pure
