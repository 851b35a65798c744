/- Divisors. -/
import Derived.Test.YtmkcmkkpeimldaaDoorPx1
import Derived.Test.YtmkcmkkpeimldaaDoorPx2
import Derived.Test.YtmkcmkkpeimldaaDoorPx3
import Derived.Test.YtmkcmkkpeimldaaDoorQB
namespace Go.Proofs.YtmkcmkkpeimldaaDoor.Pure
open Go.RowKit Go.Proofs.YtmkcmkkpeimldaaDoor.P Go.Proofs.YtmkcmkkpeimldaaDoorW.PrintWords Go.Proofs.YtmkcmkkpeimldaaDoorW.PrintLast
set_option linter.unusedVariables false
set_option linter.unusedSimpArgs false

/- Plain theory of checks: rests of bits by a divisor, as a machine that takes bit after bit. No Go and no memory in it. -/
namespace Crc

def xorL : List Bool → List Bool → List Bool
  | a :: l, b :: m => (a != b) :: xorL l m
  | [], m => m
  | l, [] => l

def zer (n : Nat) : List Bool := List.replicate n false

/-- One bit more behind what is left; pt is the divisor without its first bit. -/
def push (pt r : List Bool) (b : Bool) : List Bool :=
  match r with
  | [] => []
  | h :: t => if h then xorL pt (t ++ [b]) else t ++ [b]

def feed (pt r s : List Bool) : List Bool := s.foldl (push pt) r

/-- What is left of the bits s. -/
def rst (pt s : List Bool) : List Bool := feed pt (zer pt.length) s

theorem xorL_length : ∀ (a b : List Bool), a.length = b.length → (xorL a b).length = a.length
  | [], [], _ => rfl
  | x :: a, y :: b, h => by simp only [xorL, List.length_cons]; rw [xorL_length a b (by simpa using h)]
  | [], _ :: _, h => by simp at h
  | _ :: _, [], h => by simp at h

theorem push_length {pt r : List Bool} {b : Bool} (h : r.length = pt.length) : (push pt r b).length = pt.length := by
  cases r with
  | nil => simpa [push] using h
  | cons x t =>
    simp only [push]
    split
    · rw [xorL_length]; simp at h ⊢; omega
    · simp at h ⊢; omega

theorem feed_length {pt : List Bool} : ∀ (s r : List Bool), r.length = pt.length → (feed pt r s).length = pt.length := by
  intro s
  induction s with
  | nil => intro r h; exact h
  | cons b s ih => intro r h; exact ih _ (push_length h)

theorem feed_append (pt r s t : List Bool) : feed pt r (s ++ t) = feed pt (feed pt r s) t := by simp [feed, List.foldl_append]

theorem rst_length (pt s : List Bool) : (rst pt s).length = pt.length := feed_length s _ (by simp [zer])

theorem xorL_comm : ∀ (a b : List Bool), xorL a b = xorL b a
  | [], [] => rfl
  | [], _ :: _ => rfl
  | _ :: _, [] => rfl
  | x :: a, y :: b => by simp only [xorL]; rw [xorL_comm a b]; cases x <;> cases y <;> rfl

theorem xorL_assoc : ∀ (a b c : List Bool), a.length = b.length → b.length = c.length → xorL (xorL a b) c = xorL a (xorL b c)
  | [], [], [], _, _ => rfl
  | x :: a, y :: b, z :: c, h, k => by
    simp only [xorL]; rw [xorL_assoc a b c (by simpa using h) (by simpa using k)]; cases x <;> cases y <;> cases z <;> rfl
  | [], _ :: _, _, h, _ => by simp at h
  | _ :: _, [], _, h, _ => by simp at h
  | _, [], _ :: _, _, k => by simp at k
  | _, _ :: _, [], _, k => by simp at k

theorem xorL_zer : ∀ (a : List Bool) (n : Nat), n = a.length → xorL a (zer n) = a
  | [], n, h => by subst h; rfl
  | x :: a, n, h => by subst h; simp only [zer, List.length_cons, List.replicate_succ, xorL]; rw [show List.replicate a.length false = zer a.length from rfl, xorL_zer a _ rfl]; simp

theorem xorL_self : ∀ (a : List Bool), xorL a a = zer a.length
  | [] => rfl
  | x :: a => by simp only [xorL, zer, List.length_cons, List.replicate_succ]; rw [xorL_self a]; simp [zer]

theorem xorL_append : ∀ (a b c d : List Bool), a.length = b.length → xorL (a ++ c) (b ++ d) = xorL a b ++ xorL c d
  | [], [], c, d, _ => by simp [xorL]
  | x :: a, y :: b, c, d, h => by simp only [List.cons_append, xorL]; rw [xorL_append a b c d (by simpa using h)]
  | [], _ :: _, _, _, h => by simp at h
  | _ :: _, [], _, _, h => by simp at h

theorem xorL_cancel {a b : List Bool} (h : a.length = b.length) (e : xorL a b = zer a.length) : a = b := by
  have h1 : xorL (xorL a b) b = a := by rw [xorL_assoc _ _ _ h rfl, xorL_self, xorL_zer _ _ (by omega)]
  rw [e, xorL_comm, h, xorL_zer _ _ rfl] at h1; exact h1.symm

/-- Taking bits is additive. -/
theorem push_xor {pt r q : List Bool} {a b : Bool} (hr : r.length = pt.length) (hq : q.length = pt.length) : push pt (xorL r q) (a != b) = xorL (push pt r a) (push pt q b) := by
  cases r with
  | nil => cases q with
    | nil => rfl
    | cons y q => rw [← hr] at hq; simp at hq
  | cons x r => cases q with
    | nil => rw [← hq] at hr; simp at hr
    | cons y q =>
      have e : xorL (r ++ [a]) (q ++ [b]) = xorL r q ++ [a != b] := by rw [xorL_append _ _ _ _ (by simp at hr hq; omega)]; rfl
      have l1 : (r ++ [a]).length = pt.length := by simp at hr ⊢; omega
      have l2 : (q ++ [b]).length = pt.length := by simp at hq ⊢; omega
      simp only [xorL, push]
      cases x <;> cases y <;> simp only [bne_self_eq_false, Bool.false_bne, Bool.true_bne, Bool.not_false, if_true, Bool.false_eq_true, if_false]
      · exact e.symm
      · rw [← e, ← xorL_assoc _ _ _ (by omega) (by omega), xorL_comm pt, xorL_assoc _ _ _ (by omega) (by omega)]
      · rw [← e, xorL_assoc _ _ _ (by omega) (by omega)]
      · rw [← e, xorL_assoc pt _ _ (by omega) (by rw [xorL_length] <;> omega), ← xorL_assoc (r ++ [a]) _ _ (by omega) (by omega), xorL_comm (r ++ [a]) pt, xorL_assoc pt _ _ (by omega) (by omega), ← xorL_assoc pt pt _ rfl (by rw [xorL_length] <;> omega), xorL_self]
        rw [xorL_comm (zer _) _, xorL_zer _ _ (by rw [xorL_length] <;> omega), xorL_comm]

theorem feed_xor {pt : List Bool} : ∀ (s t r q : List Bool), s.length = t.length → r.length = pt.length → q.length = pt.length → feed pt (xorL r q) (xorL s t) = xorL (feed pt r s) (feed pt q t) := by
  intro s
  induction s with
  | nil => intro t r q h hr hq; cases t with
    | nil => rfl
    | cons _ _ => simp at h
  | cons a s ih => intro t r q h hr hq; cases t with
    | nil => simp at h
    | cons b t =>
      simp only [xorL, feed, List.foldl_cons]
      rw [push_xor hr hq]
      exact ih t _ _ (by simpa using h) (push_length hr) (push_length hq)

theorem rst_xor (pt s t : List Bool) (h : s.length = t.length) : rst pt (xorL s t) = xorL (rst pt s) (rst pt t) := by
  have e : zer pt.length = xorL (zer pt.length) (zer pt.length) := (xorL_zer _ _ (by simp [zer])).symm
  unfold rst
  conv => lhs; rw [e]
  exact feed_xor s t _ _ h (by simp [zer]) (by simp [zer])

/-- Noughts ahead change nothing. -/
theorem feed_zer {pt : List Bool} : ∀ (n : Nat), feed pt (zer pt.length) (zer n) = zer pt.length := by
  have h1 : push pt (zer pt.length) false = zer pt.length := by
    cases pt with
    | nil => rfl
    | cons _ pt => show zer pt.length ++ [false] = zer (pt.length + 1); simp [zer, List.replicate_succ']
  intro n
  induction n with
  | zero => rfl
  | succ n ih => show feed pt (push pt (zer pt.length) false) (zer n) = _; rw [h1, ih]

theorem rst_zer_append (pt : List Bool) (n : Nat) (s : List Bool) : rst pt (zer n ++ s) = rst pt s := by
  unfold rst; rw [feed_append, feed_zer]

/-- Few bits are left as they are. -/
theorem feed_short {pt : List Bool} : ∀ (s r : List Bool), r.length + s.length = pt.length → feed pt (zer s.length ++ r) s = r ++ s := by
  intro s
  induction s with
  | nil => intro r _; simp [feed, zer]
  | cons b s ih =>
    intro r h
    show feed pt (push pt (zer (s.length + 1) ++ r) b) s = _
    have : push pt (zer (s.length + 1) ++ r) b = zer s.length ++ (r ++ [b]) := by simp [push, zer, List.replicate_succ]
    rw [this, ih _ (by simp at h ⊢; omega)]; simp

theorem rst_full {pt s : List Bool} (h : s.length = pt.length) : rst pt s = s := by
  have := feed_short (pt := pt) s [] (by simpa using h)
  rw [List.append_nil, List.nil_append, h] at this; exact this

theorem rst_short {pt s : List Bool} (h : s.length ≤ pt.length) : rst pt s = zer (pt.length - s.length) ++ s := by
  rw [← rst_zer_append pt (pt.length - s.length)]
  exact rst_full (by simp [zer]; omega)

/-- The divisor itself leaves nothing. -/
theorem rst_self (pt : List Bool) : rst pt (true :: pt) = zer pt.length := by
  cases hp : pt with
  | nil => rfl
  | cons a q =>
    rw [← hp]
    have h1 : (true :: pt) = (true :: pt.dropLast) ++ [pt.getLast (by rw [hp]; simp)] := by rw [List.cons_append, List.dropLast_concat_getLast]
    have h2 : rst pt (true :: pt.dropLast) = true :: pt.dropLast := rst_full (by simp [hp])
    have h3 : rst pt (true :: pt) = push pt (rst pt (true :: pt.dropLast)) (pt.getLast (by rw [hp]; simp)) := by
      conv => lhs; rw [h1]
      unfold rst; rw [feed_append]; rfl
    rw [h3, h2]
    simp only [push, if_true]
    rw [List.dropLast_concat_getLast, xorL_self]

theorem rst_snoc (pt s : List Bool) (b : Bool) : rst pt (s ++ [b]) = push pt (rst pt s) b := by unfold rst; rw [feed_append]; rfl

/-- Where the divisor's last bit is 1 a nought more behind leaves nothing only where nothing was left. -/
theorem push_zero {pt r : List Bool} (hl : pt.getLast? = some true) (h : r.length = pt.length) (e : push pt r false = zer pt.length) : r = zer pt.length := by
  cases r with
  | nil => rw [← h]; rfl
  | cons x t =>
    simp only [push] at e
    split at e
    · have e1 : pt = t ++ [false] := xorL_cancel (by simp at h ⊢; omega) e
      rw [e1] at hl; simp at hl
    · rename_i hx
      have hx' : x = false := by simpa using hx
      subst hx'
      have h' : pt.length = t.length + 1 := by simpa using h.symm
      rw [h'] at e ⊢
      have : t = zer t.length := by
        rw [zer, List.replicate_succ', ← zer] at e
        exact (List.append_inj' e rfl).1
      conv => lhs; rw [this]
      rfl

theorem push_inj {pt r q : List Bool} {b : Bool} (hl : pt.getLast? = some true) (hr : r.length = pt.length) (hq : q.length = pt.length) (e : push pt r b = push pt q b) : r = q := by
  have h1 : push pt (xorL r q) (b != b) = xorL (push pt r b) (push pt q b) := push_xor hr hq
  rw [e, xorL_self, push_length hq, bne_self_eq_false] at h1
  have := push_zero hl (by rw [xorL_length] <;> omega) h1
  exact xorL_cancel (by omega) (by rw [this, hr])

theorem rst_append_zer {pt : List Bool} (hl : pt.getLast? = some true) : ∀ (n : Nat) (s : List Bool), rst pt (s ++ zer n) = zer pt.length → rst pt s = zer pt.length := by
  intro n
  induction n with
  | zero => intro s h; simpa [zer] using h
  | succ n ih =>
    intro s h
    rw [zer, List.replicate_succ', ← zer, ← List.append_assoc, rst_snoc] at h
    exact ih s (push_zero hl (rst_length _ _) h)

theorem rst_zer_behind (pt : List Bool) (n : Nat) (s : List Bool) (h : rst pt s = zer pt.length) : rst pt (s ++ zer n) = zer pt.length := by
  unfold rst at *; rw [feed_append, h, feed_zer]

theorem rst_between {pt : List Bool} (hl : pt.getLast? = some true) (a b : Nat) (s : List Bool) : rst pt (zer a ++ s ++ zer b) = zer pt.length ↔ rst pt s = zer pt.length := by
  rw [List.append_assoc, rst_zer_append]
  exact ⟨rst_append_zer hl b s, rst_zer_behind pt b s⟩

theorem one_bit {pt : List Bool} (hl : pt.getLast? = some true) (a b : Nat) : rst pt (zer a ++ [true] ++ zer b) ≠ zer pt.length := by
  rw [Ne, rst_between hl]
  have h0 : 1 ≤ pt.length := by cases pt with | nil => simp at hl | cons _ _ => simp
  rw [rst_short (by simpa using h0)]
  intro e
  have : true ∈ zer pt.length := by rw [← e]; simp
  simp [zer] at this

theorem two_bits {pt : List Bool} (hl : pt.getLast? = some true) (h2 : 2 ≤ pt.length) (a b : Nat) : rst pt (zer a ++ [true, true] ++ zer b) ≠ zer pt.length := by
  rw [Ne, rst_between hl, rst_short (by simpa using h2)]
  intro e
  have : true ∈ zer pt.length := by rw [← e]; simp
  simp [zer] at this

/-! Cycles. -/
def apart (d : Nat) : List Bool := true :: (zer (d - 1) ++ [true])
def mono (pt : List Bool) (j : Nat) : List Bool := rst pt (true :: zer j)

theorem mono_succ (pt : List Bool) (j : Nat) : mono pt (j + 1) = push pt (mono pt j) false := by
  unfold mono; rw [← rst_snoc]; simp [zer, List.replicate_succ']

theorem mono_length (pt : List Bool) (j : Nat) : (mono pt j).length = pt.length := rst_length _ _

theorem apart_iff {pt : List Bool} {d : Nat} (hd : 1 ≤ d) : rst pt (apart d) = zer pt.length ↔ mono pt d = mono pt 0 := by
  obtain ⟨j, rfl⟩ : ∃ j, d = j + 1 := ⟨d - 1, by omega⟩
  have e : apart (j + 1) = xorL (true :: zer (j + 1)) (zer (j + 1) ++ [true]) := by
    simp only [apart, Nat.add_sub_cancel]
    have : zer (j + 1) = zer j ++ [false] := by simp [zer, List.replicate_succ']
    conv => rhs; arg 1; rw [this]
    have e2 : zer (j + 1) ++ [true] = false :: (zer j ++ [true]) := by simp [zer, List.replicate_succ]
    rw [e2]
    simp only [xorL]
    rw [xorL_append _ _ _ _ rfl, xorL_self]
    simp [xorL, zer]
  have e1 : mono pt 0 = rst pt (zer (j + 1) ++ [true]) := by rw [rst_zer_append]; rfl
  rw [e, rst_xor _ _ _ (by simp [zer]), ← e1]
  constructor
  · intro h; exact xorL_cancel (by rw [mono_length, mono_length]) (by rw [mono_length]; exact h)
  · intro h; rw [show rst pt (true :: zer (j + 1)) = mono pt (j + 1) from rfl, h, xorL_self, mono_length]

theorem mono_back {pt : List Bool} (hl : pt.getLast? = some true) : ∀ (i j : Nat), mono pt (i + j) = mono pt i → mono pt j = mono pt 0 := by
  intro i
  induction i with
  | zero => intro j h; simpa using h
  | succ i ih =>
    intro j h
    rw [show i + 1 + j = (i + j) + 1 by omega, mono_succ, mono_succ] at h
    exact ih j (push_inj hl (mono_length _ _) (mono_length _ _) h)

theorem mono_on {pt : List Bool} {c : Nat} (hc : mono pt c = mono pt 0) : ∀ j, mono pt (j + c) = mono pt j := by
  intro j
  induction j with
  | zero => simpa using hc
  | succ j ih => rw [show j + 1 + c = (j + c) + 1 by omega, mono_succ, mono_succ, ih]

theorem mono_times {pt : List Bool} {c : Nat} (hc : mono pt c = mono pt 0) : ∀ q j, mono pt (j + q * c) = mono pt j := by
  intro q
  induction q with
  | zero => intro j; simp
  | succ q ih => intro j; rw [Nat.succ_mul, ← Nat.add_assoc, mono_on hc, ih]

/-- Of the least cycle c: the others are its multiples. -/
theorem cycle_iff {pt : List Bool} {c : Nat} (h1 : 1 ≤ c) (hc : mono pt c = mono pt 0) (hm : ∀ j, 1 ≤ j → j < c → mono pt j ≠ mono pt 0) (d : Nat) : mono pt d = mono pt 0 ↔ d % c = 0 := by
  have e : mono pt d = mono pt (d % c) := by
    conv => lhs; rw [← Nat.mod_add_div d c, Nat.mul_comm]
    exact mono_times hc _ _
  rw [e]
  constructor
  · intro h
    by_cases hz : d % c = 0
    · exact hz
    · exact absurd h (hm _ (by omega) (Nat.mod_lt _ (by omega)))
  · intro h; rw [h]

def all : Nat → List (List Bool)
  | 0 => [[]]
  | n + 1 => (all n).map (false :: ·) ++ (all n).map (true :: ·)
theorem all_length : ∀ n, (all n).length = 2 ^ n
  | 0 => rfl
  | n + 1 => by simp [all, all_length n]; omega
theorem mem_all : ∀ (l : List Bool), l ∈ all l.length
  | [] => by simp [all]
  | b :: l => by have := mem_all l; cases b <;> simp [all, this]

theorem sub_len {α : Type} [DecidableEq α] : ∀ (l m : List α), l.Nodup → (∀ x ∈ l, x ∈ m) → l.length ≤ m.length := by
  intro l
  induction l with
  | nil => intro m _ _; simp
  | cons a l ih =>
    intro m hn hm
    rw [List.nodup_cons] at hn
    have ha := hm a (by simp)
    have := ih (m.erase a) hn.2 (fun x hx => (List.mem_erase_of_ne (fun (e : x = a) => hn.1 (by rw [← e]; exact hx))).2 (hm x (by simp [hx])))
    rw [List.length_erase_of_mem ha] at this
    have : 0 < m.length := List.length_pos_of_mem ha
    simp; omega

/-- There is a cycle. -/
theorem cycle_there {pt : List Bool} (hl : pt.getLast? = some true) : ∃ c, 1 ≤ c ∧ c ≤ 2 ^ pt.length ∧ mono pt c = mono pt 0 := by
  by_cases h : ∃ c, 1 ≤ c ∧ c ≤ 2 ^ pt.length ∧ mono pt c = mono pt 0
  · exact h
  · exfalso
    have hd : ((List.range (2 ^ pt.length + 1)).map (mono pt)).Nodup := by
      rw [List.nodup_iff_pairwise_ne, List.pairwise_map]
      have hlt : (List.range (2 ^ pt.length + 1)).Pairwise (· < ·) := List.pairwise_lt_range
      refine List.Pairwise.imp_of_mem ?_ hlt
      intro a b ha hb hab e
      rw [List.mem_range] at ha hb
      refine h ⟨b - a, by omega, by omega, mono_back hl a (b - a) ?_⟩
      rw [show a + (b - a) = b by omega]; exact e.symm
    have := sub_len _ (all pt.length) hd (by
      intro x hx
      obtain ⟨j, _, rfl⟩ := List.mem_map.1 hx
      have := mem_all (mono pt j)
      rwa [mono_length] at this)
    rw [all_length, List.length_map, List.length_range] at this
    omega

end Crc

/-! Rests as they are reckoned in place: the machine of the plain theory. -/
def rem (pt : List Bool) : Nat → List Bool → List Bool
  | 0, l => l
  | _ + 1, [] => []
  | n + 1, h :: t => rem pt n (if h then Crc.xorL pt t else t)
theorem xorL_long (a b c : List Bool) (h : a.length = b.length) : Crc.xorL a (b ++ c) = Crc.xorL a b ++ c := by
  have := Crc.xorL_append a b [] c h
  rw [List.append_nil] at this
  rw [this]
  cases c <;> rfl
theorem rem_feed (pt : List Bool) : ∀ (s r : List Bool), r.length = pt.length → 1 ≤ pt.length → rem pt s.length (r ++ s) = Crc.feed pt r s := by
  intro s
  induction s with
  | nil =>
    intro r hr h1
    rw [List.append_nil]; rfl
  | cons b s ih =>
    intro r hr h1
    cases r with
    | nil => simp only [List.length_nil] at hr; omega
    | cons h t =>
      simp only [List.length_cons] at hr
      rw [List.cons_append, List.length_cons, rem]
      have hp : (Crc.push pt (h :: t) b).length = pt.length := Crc.push_length (by simp; omega)
      rw [show Crc.feed pt (h :: t) (b :: s) = Crc.feed pt (Crc.push pt (h :: t) b) s by rfl, ← ih _ hp h1]
      congr 1
      have e : t ++ b :: s = (t ++ [b]) ++ s := by simp
      rw [e, xorL_long pt (t ++ [b]) s (by simp; omega)]
      cases h <;> simp [Crc.push]
theorem rem_rst (pt s : List Bool) (h1 : 1 ≤ pt.length) (hs : pt.length ≤ s.length) : rem pt (s.length - pt.length) s = Crc.rst pt s := by
  have e : s = s.take pt.length ++ s.drop pt.length := (List.take_append_drop _ _).symm
  have hl : (s.take pt.length).length = pt.length := by rw [List.length_take]; omega
  rw [show Crc.rst pt s = Crc.feed pt (s.take pt.length) (s.drop pt.length) by
    conv => lhs; rw [e]
    unfold Crc.rst
    rw [Crc.feed_append, show Crc.feed pt (Crc.zer pt.length) (s.take pt.length) = Crc.rst pt (s.take pt.length) from rfl, Crc.rst_full hl]]
  have := rem_feed pt (s.drop pt.length) (s.take pt.length) hl h1
  rw [List.length_drop] at this
  conv => lhs; rw [e]
  rw [show (s.take pt.length ++ s.drop pt.length).length = s.length by rw [← e]]
  exact this

/-! Bits as yes and no; divisors. -/
def q49 (x : Int) : Bool := x == 49
def ib (b : Bool) : Int := if b then 49 else 48
def bo (s : ByteArray) : List Bool := (bl s).map q49
def ob (l : List Bool) : ByteArray := tb (l.map ib)
theorem bo_len (s : ByteArray) : (bo s).length = s.size := by unfold bo; rw [List.length_map, bl_len]
theorem ob_len (l : List Bool) : (ob l).size = l.length := by unfold ob; rw [tb_len, List.length_map]
theorem ib_bit (l : List Bool) : (l.map ib).all isBit = true := by
  rw [List.all_map, List.all_eq_true]
  intro b _
  cases b <;> rfl
theorem bits_bytes (l : List Bool) : ∀ x ∈ l.map ib, 0 ≤ x ∧ x ≤ 255 := by
  intro x hx
  have := (isBit_iff x).1 (List.all_eq_true.1 (ib_bit l) x hx)
  omega
theorem bl_ob (l : List Bool) : bl (ob l) = l.map ib := bl_tb _ (bits_bytes l)
theorem bo_ob (l : List Bool) : bo (ob l) = l := by
  unfold bo
  rw [bl_ob, List.map_map]
  conv => rhs; rw [← List.map_id l]
  refine List.map_congr_left fun b _ => ?_
  cases b <;> rfl
theorem okBits_ob (l : List Bool) : okBits (ob l) = true := by unfold okBits; rw [bl_ob]; exact ib_bit l
theorem ob_bo (s : ByteArray) (h : okBits s = true) : ob (bo s) = s := by
  unfold ob bo
  rw [List.map_map]
  have : (bl s).map (ib ∘ q49) = bl s := by
    conv => rhs; rw [← List.map_id (bl s)]
    refine List.map_congr_left fun x hx => ?_
    rcases (isBit_iff x).1 (List.all_eq_true.1 h x hx) with rfl | rfl <;> rfl
  rw [this, tb_bl]
theorem ob_append (a b : List Bool) : ob (a ++ b) = ob a ++ ob b := by unfold ob; rw [List.map_append, tb_append]
theorem bo_append (a b : ByteArray) : bo (a ++ b) = bo a ++ bo b := by unfold bo; rw [bl_append, List.map_append]
theorem bo_extract (s : ByteArray) (i j : Nat) : bo (s.extract i j) = ((bo s).drop i).take (j - i) := by unfold bo; rw [bl_extract, List.map_take, List.map_drop]
theorem okBits_append (a b : ByteArray) : okBits (a ++ b) = (okBits a && okBits b) := by unfold okBits; rw [bl_append, List.all_append]
theorem okBits_extract (s : ByteArray) (h : okBits s = true) (i j : Nat) : okBits (s.extract i j) = true := by
  unfold okBits at h ⊢
  rw [bl_extract, List.all_eq_true]
  rw [List.all_eq_true] at h
  exact fun x hx => h x (List.mem_of_mem_drop (List.mem_of_mem_take hx))
theorem bo_inj {a b : ByteArray} (ha : okBits a = true) (hb : okBits b = true) (h : bo a = bo b) : a = b := by rw [← ob_bo a ha, ← ob_bo b hb, h]
theorem bit_at (s : ByteArray) (h : okBits s = true) (j : Nat) (hj : j < s.size) : bt s (j : Int) = ib ((bo s)[j]'(by rw [bo_len]; exact hj)) := by
  rw [bt_nat s j hj]
  simp only [bo, List.getElem_map]
  rcases (isBit_iff _).1 (List.all_eq_true.1 h _ (List.getElem_mem (l := bl s) (n := j) (by rw [bl_len]; exact hj))) with e | e <;> rw [e] <;> rfl
theorem ib_one (b : Bool) : (ib b = 49) = (b = true) := by cases b <;> simp [ib]
theorem bt0_iff (s : ByteArray) (h : okBits s = true) (j : Nat) (hj : j < s.size) : (bt s (j : Int) = 49) ↔ (bo s)[j]'(by rw [bo_len]; exact hj) = true := by
  rw [bit_at s h j hj, ib_one]
/-- A divisor. -/
def okPoly (p : ByteArray) : Bool := okBits p && (decide (2 ≤ p.size) && decide (p.size ≤ 9)) && ((bt p 0 == 49) && (bt p ((p.size : Int) - 1) == 49))
theorem okPoly_bits {p : ByteArray} (h : okPoly p = true) : okBits p = true := by unfold okPoly at h; simp at h; exact h.1.1
theorem okPoly_size {p : ByteArray} (h : okPoly p = true) : 2 ≤ p.size ∧ p.size ≤ 9 := by unfold okPoly at h; simp at h; exact h.1.2
def pt (p : ByteArray) : List Bool := (bo p).tail
theorem pt_len (p : ByteArray) : (pt p).length = p.size - 1 := by unfold pt; rw [List.length_tail, bo_len]
theorem pt_cons {p : ByteArray} (h : okPoly p = true) : bo p = true :: pt p := by
  have hs := okPoly_size h
  have hb := okPoly_bits h
  have h0 : bt p 0 = 49 := by unfold okPoly at h; simp at h; exact h.2.1
  have := (bt0_iff p hb 0 (by omega)).1 h0
  unfold pt
  have hl := bo_len p
  cases e : bo p with
  | nil => rw [e] at hl; simp at hl; omega
  | cons a l =>
    simp only [e, List.getElem_cons_zero] at this
    rw [this]; rfl
theorem pt_last {p : ByteArray} (h : okPoly p = true) : (pt p).getLast? = some true := by
  have hs := okPoly_size h
  have hb := okPoly_bits h
  have h0 : bt p ((p.size : Int) - 1) = 49 := by unfold okPoly at h; simp at h; exact h.2.2
  rw [show ((p.size : Int) - 1) = ((p.size - 1 : Nat) : Int) by omega] at h0
  have h1 := (bt0_iff p hb (p.size - 1) (by omega)).1 h0
  have hl := pt_len p
  rw [List.getLast?_eq_getElem?, hl]
  have e := pt_cons h
  have h2 : (bo p)[p.size - 1]? = some true := by rw [List.getElem?_eq_getElem (by rw [bo_len]; omega), h1]
  rw [e, show p.size - 1 = (p.size - 1 - 1) + 1 by omega, List.getElem?_cons_succ] at h2
  exact h2
theorem specPoly_some (p : ByteArray) (hp : p.size ≤ 1000000000) (k : Nat) (hk : p.size < k) : spec_validPoly.f k p = some (okPoly p) := by
  unfold spec_validPoly.f okPoly
  rw [validBits_some p hp k hk, bsome]
  unfold spec_inRange.f
  cases hb : okBits p with
  | false => rw [if_neg (by simp)]; simp
  | true =>
    simp only [Bool.true_and]
    by_cases h4 : p.size ≤ 40
    · rw [if_pos (by simpa using h4)]
      by_cases h2 : (2 : Int) ≤ (p.size : Int)
      · by_cases h9 : p.size ≤ 9
        · simp only [if_pos h2]
          rw [bsome, if_pos (by simp; omega), if_pos (show (0 : Int) < (p.size : Int) by omega), w64 (n := (p.size : Int) - 1) (by omega) (by omega)]
          have e2 : 2 ≤ p.size := by omega
          by_cases h0 : bt p 0 = 49
          · rw [if_pos h0, if_pos (show (0 : Int) ≤ (p.size : Int) - 1 by omega), if_pos (show (p.size : Int) - 1 < (p.size : Int) by omega)]; simp [h0, e2, h9]
          · rw [if_neg h0]; simp [h0]
        · simp only [if_pos h2]
          rw [bsome, if_neg (by simp; omega)]
          simp [h9]
      · simp only [if_neg h2]
        rw [bsome, if_neg (by simp)]
        have e2 : ¬ 2 ≤ p.size := by omega
        simp [e2]
    · rw [if_neg (by simpa using h4)]
      have h9 : ¬ p.size ≤ 9 := by omega
      simp [h9]
theorem implPoly_some (p : ByteArray) (hp : p.size ≤ 1000000000) : impl_ValidPoly.f p = some (okPoly p) := by
  unfold impl_ValidPoly.f okPoly
  by_cases h2 : (p.size : Int) ≥ 2
  · rw [if_pos h2]
    have e2 : 2 ≤ p.size := by omega
    by_cases h9 : (p.size : Int) ≤ 9
    · rw [if_pos h9, bitsAlone_some p hp, bsome]
      have e9 : p.size ≤ 9 := by omega
      cases hb : okBits p with
      | false => rw [if_neg (by simp)]; simp
      | true =>
        rw [if_pos rfl, if_pos (show (0 : Int) < (p.size : Int) by omega), w64 (n := (p.size : Int) - 1) (by omega) (by omega)]
        by_cases h0 : bt p 0 = 49
        · rw [if_pos h0, if_pos (show (0 : Int) ≤ (p.size : Int) - 1 by omega), if_pos (show (p.size : Int) - 1 < (p.size : Int) by omega)]; simp [h0, e2, e9]
        · rw [if_neg h0]; simp [h0]
    · rw [if_neg h9]
      have e9 : ¬ p.size ≤ 9 := by omega
      simp [e9]
  · rw [if_neg h2]
    have e2 : ¬ 2 ≤ p.size := by omega
    simp [e2]

end Go.Proofs.YtmkcmkkpeimldaaDoor.Pure
