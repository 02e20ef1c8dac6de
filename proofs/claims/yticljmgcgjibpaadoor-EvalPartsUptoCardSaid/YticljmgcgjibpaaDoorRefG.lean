/-
  The walks of chanceryref17: fixed, asked. Conditions: numbers within 64 bits.
-/
import Derived.Test.YticljmgcgjibpaaDoorRefE
namespace Go.Proofs.YticljmgcgjibpaaDoor
open Go.RowKit

def fixN (k : UInt8) (n : Int) : Nat := if k.toNat = 2 then n.natAbs * 10000 else n.natAbs
theorem fixN_signed (v : Cell.Val) : signed (decide (v.n < 0)) (fixN v.k v.n) = Val.fixed v := by
  unfold fixN Val.fixed
  split
  · have := Val.signed_mul v.n 10000
    rw [show decide ((10000 : Int) < 0) = false from rfl, show (10000 : Int).natAbs = 10000 from rfl] at this
    rw [show decide (v.n < 0) = (decide (v.n < 0) != false) by cases decide (v.n < 0) <;> rfl]
    exact this
  · exact Val.signed_abs v.n
theorem fixN_lt {k : UInt8} {n : Int} (h0 : -9223372036854775808 ≤ n) (h1 : n ≤ 9223372036854775807) : fixN k n ≤ 92233720368547758080000 := by
  unfold fixN
  split <;> omega
/-- Two values' blocks. -/
def V2 (w wr : World) (k : UInt8) (n : Int) (s : ByteArray) (k' : UInt8) (n' : Int) (s' : ByteArray) : Prop := Blk wr w.heap.size 24 #[.int .u8 (k.toNat : Int), .int .i64 n, .string s] ∧ Blk wr (w.heap.size + 1) 24 #[.int .u8 (k'.toNat : Int), .int .i64 n', .string s'] ∧ Below w.heap.size w wr
theorem V2.new (w : World) (k : UInt8) (n : Int) (s : ByteArray) (k' : UInt8) (n' : Int) (s' : ByteArray) : V2 w ((w.alloc (.cells #[.int .u8 (k.toNat : Int), .int .i64 n, .string s] 24)).alloc (.cells #[.int .u8 (k'.toNat : Int), .int .i64 n', .string s'] 24)) k n s k' n' s' := by
  refine ⟨(Blk.new _ _ _).alloc _, ?_, ((Below.refl _ _).alloc (Nat.le_refl _) _).alloc (by simp) _⟩
  have := Blk.new (w.alloc (.cells #[.int .u8 (k.toNat : Int), .int .i64 n, .string s] 24)) 24 #[.int .u8 (k'.toNat : Int), .int .i64 n', .string s']
  simpa using this
theorem V2.below {w wr w' : World} {k : UInt8} {n : Int} {s : ByteArray} {k' : UInt8} {n' : Int} {s' : ByteArray} (h : V2 w wr k n s k' n' s') (hb : Below wr.heap.size wr w') : V2 w w' k n s k' n' s' := by
  have := h.2.1.lt
  exact ⟨h.1.below hb (by omega), h.2.1.below hb (by omega), h.2.2.trans (hb.mono (by omega))⟩
def askV (p : Bool × Nat) : Value := .tuple #[.bool p.1, .int .i64 ((p.2 : Nat) : Int)]
end Go.Proofs.YticljmgcgjibpaaDoor

/-
  The walks of chanceryref17: Add, Sub, Mul, Neg. Conditions: numbers within 64 bits. (printed by refg.py)
-/
namespace Go.Proofs.YticljmgcgjibpaaDoor
open Go.RowKit

/-- Two values' blocks and a zero value's. -/
def V3 (w wr : World) (k : UInt8) (n : Int) (s : ByteArray) (k' : UInt8) (n' : Int) (s' : ByteArray) : Prop := Blk wr w.heap.size 24 #[.int .u8 (k.toNat : Int), .int .i64 n, .string s] ∧ Blk wr (w.heap.size + 1) 24 #[.int .u8 (k'.toNat : Int), .int .i64 n', .string s'] ∧ Blk wr (w.heap.size + 1 + 1) 24 #[.int .u8 0, .int .i64 0, .string ⟨#[]⟩] ∧ Below w.heap.size w wr
theorem V3.new (w : World) (k : UInt8) (n : Int) (s : ByteArray) (k' : UInt8) (n' : Int) (s' : ByteArray) : V3 w (((w.alloc (.cells #[.int .u8 (k.toNat : Int), .int .i64 n, .string s] 24)).alloc (.cells #[.int .u8 (k'.toNat : Int), .int .i64 n', .string s'] 24)).alloc (.cells #[.int .u8 0, .int .i64 0, .string ⟨#[]⟩] 24)) k n s k' n' s' := by
  refine ⟨((Blk.new _ _ _).alloc _).alloc _, ?_, ?_, (((Below.refl _ _).alloc (Nat.le_refl _) _).alloc (by simp) _).alloc (by simp; omega) _⟩
  · have := (Blk.new (w.alloc (.cells #[.int .u8 (k.toNat : Int), .int .i64 n, .string s] 24)) 24 #[.int .u8 (k'.toNat : Int), .int .i64 n', .string s']).alloc (.cells #[.int .u8 0, .int .i64 0, .string ⟨#[]⟩] 24)
    simpa using this
  · have := Blk.new ((w.alloc (.cells #[.int .u8 (k.toNat : Int), .int .i64 n, .string s] 24)).alloc (.cells #[.int .u8 (k'.toNat : Int), .int .i64 n', .string s'] 24)) 24 #[.int .u8 0, .int .i64 0, .string ⟨#[]⟩]
    simpa using this
section
variable {w wr w' : World} {k : UInt8} {n : Int} {s : ByteArray} {k' : UInt8} {n' : Int} {s' : ByteArray}
theorem V3.size (h : V3 w wr k n s k' n' s') : w.heap.size + 1 + 1 < wr.heap.size := h.2.2.1.lt
theorem V3.below (h : V3 w wr k n s k' n' s') (hb : Below wr.heap.size wr w') : V3 w w' k n s k' n' s' := by
  have := h.size
  exact ⟨h.1.below hb (by omega), h.2.1.below hb (by omega), h.2.2.1.below hb (by omega), h.2.2.2.trans (hb.mono (by omega))⟩
theorem V3.drew (h : V3 w wr k n s k' n' s') : V3 w { wr with drawn := wr.drawn + 1 } k n s k' n' s' := ⟨h.1, h.2.1, h.2.2.1, h.2.2.2.drew⟩
end
theorem radd_lt {A B : Nat} (na nb : Bool) (hA : A ≤ 92233720368547758080000) (hB : B ≤ 92233720368547758080000) : (addOf na A nb B).2 < Big.P 5 := by
  rw [P5]
  unfold addOf
  split
  · show A + B < _; omega
  · split
    · show B - A < _; omega
    · show A - B < _; omega

theorem addOf_to {na nb : Bool} {A B : Nat} {sg : Bool} {sv : Nat} (h : addOf na A nb B = (sg, sv)) : Val.signed sg sv = Val.signed na A + Val.signed nb B := by
  have := addOf_int na A nb B
  rw [h] at this
  exact this
theorem addOf_lt {na nb : Bool} {A B : Nat} {sg : Bool} {sv : Nat} (h : addOf na A nb B = (sg, sv)) (hA : A ≤ 92233720368547758080000) (hB : B ≤ 92233720368547758080000) : sv < Big.P 5 := by
  have := radd_lt na nb hA hB
  rw [h] at this
  exact this

end Go.Proofs.YticljmgcgjibpaaDoor
