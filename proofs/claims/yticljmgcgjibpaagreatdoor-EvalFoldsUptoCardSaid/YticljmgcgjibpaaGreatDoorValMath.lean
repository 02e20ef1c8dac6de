/-
  The plain mathematics of chapter 17: sums, products, comparisons of values. Conditions: none. No program is named here.
-/
import Derived.Test.YticljmgcgjibpaaGreatDoorCellMath
namespace Go.Proofs.YticljmgcgjibpaaGreatDoor.Val
open Go.Proofs.YticljmgcgjibpaaGreatDoor.Cell

/-- The number, if it is an int64. -/
def fit (x : Int) : Option Int := if -9223372036854775808 ≤ x ∧ x ≤ 9223372036854775807 then some x else none
def vz : Val := ⟨0, 0, ⟨#[]⟩⟩
def numB (k : UInt8) : Bool := decide (k.toNat = 2) || decide (k.toNat = 3)
def bothRight (a b : Val) : Bool := rightB a && rightB b
def wrongKind (v : Val) : Bool := !decide (v.k.toNat = 0) && !numB v.k
/-- What is said ahead of reckoning: whether one is null; the error. -/
def asked (a b : Val) : Bool × Nat :=
  if bothRight a b = false then (false, 2)
  else if (wrongKind a || wrongKind b) = true then (false, 270)
  else (decide (a.k.toNat = 0) || decide (b.k.toNat = 0), 0)
def answer (k : UInt8) (x : Int) : Val × Nat :=
  match fit x with
  | none => (vz, 271)
  | some n => (⟨k, n, ⟨#[]⟩⟩, 0)
/-- A number in ten thousandths. -/
def fixed (v : Val) : Int := if v.k.toNat = 2 then v.n * 10000 else v.n
def add (a b : Val) : Val × Nat :=
  if (asked a b).2 ≠ 0 ∨ (asked a b).1 = true then (vz, (asked a b).2)
  else if a.k.toNat = 2 ∧ b.k.toNat = 2 then answer 2 (a.n + b.n) else answer 3 (fixed a + fixed b)
def sub (a b : Val) : Val × Nat :=
  if (asked a b).2 ≠ 0 ∨ (asked a b).1 = true then (vz, (asked a b).2)
  else if a.k.toNat = 2 ∧ b.k.toNat = 2 then answer 2 (a.n - b.n) else answer 3 (fixed a - fixed b)
/-- A size over ten thousand, half to even. -/
def halfEven (x : Nat) : Nat := if 5000 < x % 10000 ∨ (x % 10000 = 5000 ∧ x / 10000 % 2 = 1) then x / 10000 + 1 else x / 10000
def signed (neg : Bool) (V : Nat) : Int := if neg = true then -(V : Int) else (V : Int)
def mul (a b : Val) : Val × Nat :=
  if (asked a b).2 ≠ 0 ∨ (asked a b).1 = true then (vz, (asked a b).2)
  else if a.k ≠ b.k then answer 3 (a.n * b.n)
  else if a.k.toNat = 2 then answer 2 (a.n * b.n)
  else answer 3 (signed (decide (a.n < 0) != decide (b.n < 0)) (halfEven (a.n.natAbs * b.n.natAbs)))
def neg (a : Val) : Val × Nat :=
  if (asked a vz).2 ≠ 0 ∨ a.k.toNat = 0 then (vz, (asked a vz).2) else answer a.k (-a.n)
theorem signed_mul (x y : Int) : signed (decide (x < 0) != decide (y < 0)) (x.natAbs * y.natAbs) = x * y := by
  unfold signed
  rcases Int.lt_or_le x 0 with hx | hx <;> rcases Int.lt_or_le y 0 with hy | hy
  · obtain ⟨a, rfl⟩ : ∃ a : Nat, x = -(a : Int) := ⟨x.natAbs, by omega⟩
    obtain ⟨b, rfl⟩ : ∃ b : Nat, y = -(b : Int) := ⟨y.natAbs, by omega⟩
    rw [decide_eq_true hx, decide_eq_true hy]
    simp [Int.neg_mul_neg]
  · obtain ⟨a, rfl⟩ : ∃ a : Nat, x = -(a : Int) := ⟨x.natAbs, by omega⟩
    obtain ⟨b, rfl⟩ : ∃ b : Nat, y = (b : Int) := ⟨y.natAbs, by omega⟩
    rw [decide_eq_true hx, decide_eq_false (by omega)]
    simp [Int.neg_mul]
  · obtain ⟨a, rfl⟩ : ∃ a : Nat, x = (a : Int) := ⟨x.natAbs, by omega⟩
    obtain ⟨b, rfl⟩ : ∃ b : Nat, y = -(b : Int) := ⟨y.natAbs, by omega⟩
    rw [decide_eq_false (by omega), decide_eq_true hy]
    simp [Int.mul_neg]
  · obtain ⟨a, rfl⟩ : ∃ a : Nat, x = (a : Int) := ⟨x.natAbs, by omega⟩
    obtain ⟨b, rfl⟩ : ∃ b : Nat, y = (b : Int) := ⟨y.natAbs, by omega⟩
    rw [decide_eq_false (by omega), decide_eq_false (by omega)]
    simp
theorem signed_abs (x : Int) : signed (decide (x < 0)) x.natAbs = x := by
  unfold signed
  rcases Int.lt_or_le x 0 with hx | hx
  · rw [decide_eq_true hx, if_pos rfl]; omega
  · rw [decide_eq_false (by omega), if_neg Bool.false_ne_true]; omega
theorem signed_not (n : Bool) (V : Nat) : signed (!n) V = -signed n V := by
  unfold signed
  cases n <;> simp
/-- Which of two values stands ahead, as numbers in ten thousandths. -/
def sgn (x : Int) : Int := if x = 0 then 0 else if x < 0 then -1 else 1
def holds (op : UInt8) (c : Int) : Bool :=
  match op.toNat with
  | 7 => decide (c = 0)
  | 8 => decide (c ≠ 0)
  | 9 => decide (c < 0)
  | 10 => decide (c ≤ 0)
  | 11 => decide (0 < c)
  | 12 => decide (0 ≤ c)
  | _ => false
end Go.Proofs.YticljmgcgjibpaaGreatDoor.Val
