/-
  Plain: the remainder of bytes, bit by bit, on natural numbers: what the code's steps come to; linearity; that a change within four bytes is seen. Conditions: none. No program is named here.
-/
import Derived.Laws.BitsAllLaws
import Derived.Laws.BitsLemmas
import Derived.IntWalk
namespace Go.Proofs.Ytpfjhigiphkddaa.Sums

def poly : Nat := 3988292384
/-- One bit. -/
def stepB (r x : Nat) : Nat := if r % 2 = x then r / 2 else (r / 2) ^^^ poly
/-- The first k bits of a byte. -/
def bitsTo (r c : Nat) : Nat → Nat
  | 0 => r
  | k + 1 => stepB (bitsTo r c k) (c / 2 ^ k % 2)
def byteS (r : Nat) (c : UInt8) : Nat := bitsTo r c.toNat 8
def run (r : Nat) (l : List UInt8) : Nat := l.foldl byteS r
def more (s : Nat) (l : List UInt8) : Nat := 4294967295 - run (4294967295 - s) l

theorem stepB_lt (r x : Nat) (h : r < 4294967296) : stepB r x < 4294967296 := by
  unfold stepB poly
  split
  · omega
  · exact Nat.xor_lt_two_pow (n := 32) (by omega) (by omega)
theorem bitsTo_lt (r c k : Nat) (h : r < 4294967296) : bitsTo r c k < 4294967296 := by
  induction k with
  | zero => exact h
  | succ k ih => exact stepB_lt _ _ ih
theorem byteS_lt (r : Nat) (c : UInt8) (h : r < 4294967296) : byteS r c < 4294967296 := bitsTo_lt _ _ _ h
theorem run_lt (l : List UInt8) : ∀ r, r < 4294967296 → run r l < 4294967296 := by
  induction l with
  | nil => intro r h; exact h
  | cons c l ih => intro r h; exact ih _ (byteS_lt _ _ h)
theorem more_lt (s : Nat) (l : List UInt8) : more s l < 4294967296 := by unfold more; omega
theorem run_append (l m : List UInt8) (r : Nat) : run r (l ++ m) = run (run r l) m := by simp [run]
theorem run_snoc (l : List UInt8) (c : UInt8) (r : Nat) : run r (l ++ [c]) = byteS (run r l) c := by simp [run]

/-! ### Fletcher -/
/-- The two sums of the numbers from l on. -/
def flet : List UInt8 → Nat → Nat → Nat × Nat
  | [], a, b => (a, b)
  | [c], a, b => ((a + c.toNat) % 65535, (b + (a + c.toNat) % 65535) % 65535)
  | c :: d :: l, a, b => flet l ((a + (c.toNat + 256 * d.toNat)) % 65535) ((b + (a + (c.toNat + 256 * d.toNat)) % 65535) % 65535)
def fletcher (l : List UInt8) : Nat := 65536 * (flet l 0 0).2 + (flet l 0 0).1

/-! ### linear -/
theorem xor_div2 (a b : Nat) : (a ^^^ b) / 2 = a / 2 ^^^ b / 2 := by
  have := Nat.xor_div_two_pow (a := a) (b := b) (n := 1)
  simpa using this
theorem xor_mod2 (a b : Nat) : (a ^^^ b) % 2 = (a % 2 + b % 2) % 2 := by
  have := Nat.xor_mod_two_pow (a := a) (b := b) (n := 1)
  simp only [Nat.pow_one] at this
  rw [this]
  rcases Nat.mod_two_eq_zero_or_one a with h | h <;> rcases Nat.mod_two_eq_zero_or_one b with h' | h' <;> simp [h, h']
theorem xor_pdiv (a b k : Nat) : (a ^^^ b) / 2 ^ k = a / 2 ^ k ^^^ b / 2 ^ k := Nat.xor_div_two_pow
theorem step_xor (a b c x y z : Nat) (hx : x < 2) (hy : y < 2) (hz : z < 2) :
    stepB (a ^^^ b ^^^ c) ((x + y + z) % 2) = stepB a x ^^^ stepB b y ^^^ stepB c z := by
  unfold stepB
  rw [xor_div2, xor_div2, xor_mod2, xor_mod2]
  generalize a / 2 = A
  generalize b / 2 = B
  generalize c / 2 = C
  have key : ∀ P : Nat, P ^^^ P = 0 := Nat.xor_self
  have e1 : ∀ P, A ^^^ B ^^^ (C ^^^ P) = A ^^^ B ^^^ C ^^^ P := fun P => by rw [Nat.xor_assoc (A ^^^ B)]
  have e2 : ∀ P, A ^^^ (B ^^^ P) ^^^ C = A ^^^ B ^^^ C ^^^ P := fun P => by
    rw [← Nat.xor_assoc, Nat.xor_assoc (A ^^^ B), Nat.xor_comm P, ← Nat.xor_assoc]
  have e3 : ∀ P, A ^^^ P ^^^ B ^^^ C = A ^^^ B ^^^ C ^^^ P := fun P => by
    rw [Nat.xor_assoc A, Nat.xor_comm P, ← Nat.xor_assoc A, Nat.xor_assoc (A ^^^ B), Nat.xor_comm P, ← Nat.xor_assoc]
  have e4 : ∀ P, A ^^^ (B ^^^ P) ^^^ (C ^^^ P) = A ^^^ B ^^^ C := fun P => by
    rw [← Nat.xor_assoc, e2, Nat.xor_assoc, key, Nat.xor_zero]
  have e5 : ∀ P, A ^^^ P ^^^ B ^^^ (C ^^^ P) = A ^^^ B ^^^ C := fun P => by
    rw [← Nat.xor_assoc, e3, Nat.xor_assoc, key, Nat.xor_zero]
  have e6 : ∀ P, A ^^^ P ^^^ (B ^^^ P) ^^^ C = A ^^^ B ^^^ C := fun P => by
    rw [← Nat.xor_assoc (A ^^^ P), Nat.xor_assoc A P B, Nat.xor_comm P B, ← Nat.xor_assoc A B P, Nat.xor_assoc (A ^^^ B), key, Nat.xor_zero]
  have e7 : ∀ P, A ^^^ P ^^^ (B ^^^ P) ^^^ (C ^^^ P) = A ^^^ B ^^^ C ^^^ P := fun P => by
    rw [← Nat.xor_assoc, e6]
  rcases Nat.mod_two_eq_zero_or_one a with ha | ha <;> rcases Nat.mod_two_eq_zero_or_one b with hb | hb <;> rcases Nat.mod_two_eq_zero_or_one c with hc | hc <;>
    (rcases (show x = 0 ∨ x = 1 by omega) with h | h <;> rcases (show y = 0 ∨ y = 1 by omega) with h' | h' <;> rcases (show z = 0 ∨ z = 1 by omega) with h'' | h'') <;>
    simp [ha, hb, hc, h, h', h'', e1, e2, e3, e4, e5, e6, e7]

theorem bit_xor (a b c k : Nat) : (a ^^^ b ^^^ c) / 2 ^ k % 2 = (a / 2 ^ k % 2 + b / 2 ^ k % 2 + c / 2 ^ k % 2) % 2 := by
  rw [xor_pdiv, xor_pdiv, xor_mod2, xor_mod2]
  omega
theorem bitsTo_xor (a b c x y z k : Nat) : bitsTo (a ^^^ b ^^^ c) (x ^^^ y ^^^ z) k = bitsTo a x k ^^^ bitsTo b y k ^^^ bitsTo c z k := by
  induction k with
  | zero => rfl
  | succ k ih =>
    simp only [bitsTo]
    rw [ih, bit_xor]
    exact step_xor _ _ _ _ _ _ (Nat.mod_lt _ (by omega)) (Nat.mod_lt _ (by omega)) (Nat.mod_lt _ (by omega))
theorem byteS_xor (a b c : Nat) (x y z : UInt8) : byteS (a ^^^ b ^^^ c) (x ^^^ y ^^^ z) = byteS a x ^^^ byteS b y ^^^ byteS c z := by
  unfold byteS
  rw [UInt8.toNat_xor, UInt8.toNat_xor]
  exact bitsTo_xor _ _ _ _ _ _ _
/-- Three lists held against each other. -/
def xor3 : List UInt8 → List UInt8 → List UInt8 → List UInt8
  | x :: a, y :: b, z :: c => (x ^^^ y ^^^ z) :: xor3 a b c
  | _, _, _ => []
theorem run_xor : ∀ (a b c : List UInt8) (r s t : Nat), a.length = b.length → b.length = c.length → run (r ^^^ s ^^^ t) (xor3 a b c) = run r a ^^^ run s b ^^^ run t c := by
  intro a
  induction a with
  | nil => intro b c r s t h h'; cases b <;> cases c <;> simp_all [xor3, run]
  | cons x a ih =>
    intro b c r s t h h'
    cases b with
    | nil => simp at h
    | cons y b =>
      cases c with
      | nil => simp at h'
      | cons z c =>
        have e : ∀ q w l, run q (w :: l) = run (byteS q w) l := fun q w l => rfl
        rw [xor3, e, e, e, e, byteS_xor]
        exact ih b c _ _ _ (by simpa using h) (by simpa using h')
theorem turn_xor (s : Nat) (h : s < 4294967296) : 4294967295 - s = s ^^^ 4294967295 := by
  have e : (BitVec.ofNat 32 s ^^^ BitVec.allOnes 32).toNat = (~~~ (BitVec.ofNat 32 s)).toNat := by rw [BitVec.xor_allOnes]
  rw [BitVec.toNat_xor, BitVec.toNat_not, BitVec.toNat_allOnes, BitVec.toNat_ofNat, Nat.mod_eq_of_lt (by omega)] at e
  simpa using e.symm
theorem more_xor (a b c : List UInt8) (h : a.length = b.length) (h' : b.length = c.length) : more 0 (xor3 a b c) = more 0 a ^^^ more 0 b ^^^ more 0 c := by
  unfold more
  rw [turn_xor _ (run_lt _ _ (by omega)), turn_xor _ (run_lt _ _ (by omega)), turn_xor _ (run_lt _ _ (by omega)), turn_xor _ (run_lt _ _ (by omega))]
  have e := run_xor a b c 4294967295 4294967295 4294967295 h h'
  rw [Nat.xor_self, Nat.zero_xor] at e
  simp only [Nat.sub_zero]
  rw [e]
  generalize run 4294967295 a = A
  generalize run 4294967295 b = B
  generalize run 4294967295 c = C
  generalize 4294967295 = M
  rw [Nat.xor_comm B M, ← Nat.xor_assoc (A ^^^ M), Nat.xor_assoc A M M, Nat.xor_self, Nat.xor_zero, Nat.xor_assoc (A ^^^ B)]

/-! ### bursts -/
def it : Nat → Nat → Nat
  | 0, r => r
  | k + 1, r => it k (stepB r 0)
theorem stepB_as0 (r x : Nat) (hx : x < 2) : stepB r x = stepB (r ^^^ x) 0 := by
  unfold stepB
  rw [xor_mod2, xor_div2]
  rcases (show x = 0 ∨ x = 1 by omega) with h | h <;> rcases Nat.mod_two_eq_zero_or_one r with hr | hr <;> simp [h, hr]
theorem step0_xor (r X : Nat) : stepB (r ^^^ X * 2) 0 = stepB r 0 ^^^ X := by
  unfold stepB
  rw [xor_mod2, xor_div2, Nat.mul_mod_left, Nat.mul_div_cancel _ (by omega), Nat.add_zero, Nat.mod_mod]
  split
  · rfl
  · rw [Nat.xor_assoc, Nat.xor_comm X, ← Nat.xor_assoc]
theorem it_xor (k : Nat) : ∀ q X, it k (q ^^^ X * 2 ^ k) = it k q ^^^ X := by
  induction k with
  | zero => intro q X; simp [it]
  | succ k ih =>
    intro q X
    rw [it, Nat.pow_succ, ← Nat.mul_assoc, step0_xor, ih]
    rfl
theorem it_snoc (k : Nat) : ∀ r, it (k + 1) r = stepB (it k r) 0 := by
  induction k with
  | zero => intro r; rfl
  | succ k ih => intro r; rw [it, ih]; rfl
theorem it_add (j : Nat) : ∀ k r, it k (it j r) = it (j + k) r := by
  induction j with
  | zero => intro k r; simp [it]
  | succ j ih =>
    intro k r
    rw [show j + 1 + k = (j + k) + 1 by omega, it, it, ih]
theorem bits_split : ∀ c : Fin 256, ∀ k : Fin 8, c.val % 2 ^ (k.val + 1) = c.val % 2 ^ k.val ^^^ (c.val / 2 ^ k.val % 2) * 2 ^ k.val := by decide +kernel
theorem bitsTo_it (r c k : Nat) (hc : c < 256) (hk : k ≤ 8) : bitsTo r c k = it k (r ^^^ c % 2 ^ k) := by
  induction k with
  | zero => simp [bitsTo, it, Nat.mod_one]
  | succ k ih =>
    rw [bitsTo, ih (by omega), stepB_as0 _ _ (Nat.mod_lt _ (by omega)), ← it_xor, ← it_snoc, Nat.xor_assoc]
    rw [bits_split ⟨c, hc⟩ ⟨k, by omega⟩]
theorem byteS_it (r : Nat) (c : UInt8) : byteS r c = it 8 (r ^^^ c.toNat) := by
  rw [byteS, bitsTo_it _ _ _ c.toNat_lt (by omega), Nat.mod_eq_of_lt (by exact c.toNat_lt)]
def num : List UInt8 → Nat
  | [] => 0
  | c :: l => c.toNat ^^^ num l * 256
theorem run_num (l : List UInt8) : ∀ r, run r l = it (8 * l.length) (r ^^^ num l) := by
  induction l with
  | nil => intro r; simp [run, it, num]
  | cons c l ih =>
    intro r
    show run (byteS r c) l = _
    rw [ih, byteS_it, num, ← Nat.xor_assoc, ← it_xor 8 (r ^^^ c.toNat) (num l), it_add]
    simp only [List.length_cons]
    rw [show 8 + 8 * l.length = 8 * (l.length + 1) by omega]
theorem num_mod (c : UInt8) (n : Nat) : (c.toNat ^^^ n * 256) % 256 = c.toNat := by
  have := Nat.xor_mod_two_pow (a := c.toNat) (b := n * 256) (n := 8)
  simp only [show (2 : Nat) ^ 8 = 256 from rfl, Nat.mul_mod_left, Nat.xor_zero] at this
  rw [this, Nat.mod_eq_of_lt c.toNat_lt]
theorem num_div (c : UInt8) (n : Nat) : (c.toNat ^^^ n * 256) / 256 = n := by
  have := Nat.xor_div_two_pow (a := c.toNat) (b := n * 256) (n := 8)
  simp only [show (2 : Nat) ^ 8 = 256 from rfl] at this
  rw [this, Nat.mul_div_cancel _ (by omega), Nat.div_eq_of_lt c.toNat_lt, Nat.zero_xor]
theorem num_inj : ∀ (l m : List UInt8), l.length = m.length → num l = num m → l = m := by
  intro l
  induction l with
  | nil => intro m h _; cases m <;> simp_all
  | cons c l ih =>
    intro m h e
    cases m with
    | nil => simp at h
    | cons d m =>
      simp only [num] at e
      have h1 := congrArg (· % 256) e
      have h2 := congrArg (· / 256) e
      simp only [num_mod, num_div] at h1 h2
      rw [UInt8.toNat_inj.1 h1, ih m (by simpa using h) h2]
theorem num_lt (l : List UInt8) : num l < 2 ^ (8 * l.length) := by
  induction l with
  | nil => simp [num]
  | cons c l ih =>
    simp only [num, List.length_cons]
    refine Nat.xor_lt_two_pow ?_ ?_
    · exact Nat.lt_of_lt_of_le c.toNat_lt (Nat.pow_le_pow_right (by omega) (show 8 ≤ 8 * (l.length + 1) by omega))
    · rw [show 8 * (l.length + 1) = 8 * l.length + 8 by omega, Nat.pow_add]
      omega
theorem step0_inj (r s : Nat) (hr : r < 4294967296) (hs : s < 4294967296) (h : stepB r 0 = stepB s 0) : r = s := by
  have hp : ∀ t, t < 4294967296 → (t / 2 ^^^ poly) / 2 ^ 31 = 1 := fun t ht => by
    rw [Nat.xor_div_two_pow, Nat.div_eq_of_lt (show t / 2 < 2 ^ 31 by omega)]
    decide
  have hq : ∀ t, t < 4294967296 → t / 2 / 2 ^ 31 = 0 := fun t ht => Nat.div_eq_of_lt (by omega)
  have hx : ∀ a b : Nat, a ^^^ poly = b ^^^ poly → a = b := fun a b e => by
    have := congrArg (· ^^^ poly) e
    simpa [Nat.xor_assoc] using this
  unfold stepB at h
  rcases Nat.mod_two_eq_zero_or_one r with h1 | h1 <;> rcases Nat.mod_two_eq_zero_or_one s with h2 | h2 <;> simp [h1, h2] at h
  · omega
  · have := hp s hs; rw [← h, hq r hr] at this; omega
  · have := hp r hr; rw [h, hq s hs] at this; omega
  · have := hx _ _ h; omega
theorem it_inj (k : Nat) : ∀ r s, r < 4294967296 → s < 4294967296 → it k r = it k s → r = s := by
  induction k with
  | zero => intro r s _ _ h; exact h
  | succ k ih =>
    intro r s hr hs h
    exact step0_inj r s hr hs (ih _ _ (stepB_lt _ _ hr) (stepB_lt _ _ hs) h)
theorem burst (l m : List UInt8) (r : Nat) (hr : r < 4294967296) (hl : l.length = m.length) (h4 : l.length ≤ 4) (h : run r l = run r m) : l = m := by
  rw [run_num, run_num, hl] at h
  have b : ∀ n : List UInt8, n.length ≤ 4 → r ^^^ num n < 4294967296 := fun n hn =>
    Nat.xor_lt_two_pow (n := 32) hr (Nat.lt_of_lt_of_le (num_lt n) (Nat.pow_le_pow_right (by omega) (by omega)))
  have := it_inj _ _ _ (b l h4) (b m (by omega)) h
  have := congrArg (r ^^^ ·) this
  simp only [← Nat.xor_assoc, Nat.xor_self, Nat.zero_xor] at this
  exact num_inj l m hl this
theorem byteS_inj (r s : Nat) (c : UInt8) (hr : r < 4294967296) (hs : s < 4294967296) (h : byteS r c = byteS s c) : r = s := by
  rw [byteS_it, byteS_it] at h
  have b : ∀ n, n < 4294967296 → n ^^^ c.toNat < 4294967296 := fun n hn => Nat.xor_lt_two_pow (n := 32) hn (by have := c.toNat_lt; omega)
  have := it_inj _ _ _ (b r hr) (b s hs) h
  have := congrArg (· ^^^ c.toNat) this
  simpa [Nat.xor_assoc] using this
theorem run_inj (l : List UInt8) : ∀ r s, r < 4294967296 → s < 4294967296 → run r l = run s l → r = s := by
  induction l with
  | nil => intro r s _ _ h; exact h
  | cons c l ih => intro r s hr hs h; exact byteS_inj r s c hr hs (ih _ _ (byteS_lt _ _ hr) (byteS_lt _ _ hs) h)
/-- A change within four bytes next to each other is seen. -/
theorem more_burst (p m m' q : List UInt8) (hl : m.length = m'.length) (h4 : m.length ≤ 4) : more 0 (p ++ m ++ q) = more 0 (p ++ m' ++ q) ↔ p ++ m ++ q = p ++ m' ++ q := by
  constructor
  · intro h
    unfold more at h
    have ha := run_lt (p ++ m ++ q) (4294967295 - 0) (by omega)
    have hb := run_lt (p ++ m' ++ q) (4294967295 - 0) (by omega)
    have h1 : run (4294967295 - 0) (p ++ m ++ q) = run (4294967295 - 0) (p ++ m' ++ q) := by omega
    rw [run_append, run_append, run_append, run_append] at h1
    have hp := run_lt p (4294967295 - 0) (by omega)
    have h2 := run_inj q _ _ (run_lt _ _ hp) (run_lt _ _ hp) h1
    rw [burst m m' _ hp hl h4 h2]
  · intro h; rw [h]
end Go.Proofs.Ytpfjhigiphkddaa.Sums
