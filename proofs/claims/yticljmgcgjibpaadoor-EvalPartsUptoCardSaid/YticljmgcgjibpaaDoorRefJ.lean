/-
  The walk of chanceryref17.Mul. Conditions: numbers within 64 bits. (printed by refmul.py)
-/
import Derived.Test.YticljmgcgjibpaaDoorRefI
namespace Go.Proofs.YticljmgcgjibpaaDoor
open Go.RowKit

section
variable {w wr w' : World} {k : UInt8} {n : Int} {s : ByteArray} {k' : UInt8} {n' : Int} {s' : ByteArray} {g : Nat} {cs : Array Value}
end
theorem V3.fiveFar {w wr : World} {g : Nat} {k : UInt8} {n : Int} {s : ByteArray} {k' : UInt8} {n' : Int} {s' : ByteArray} (h : V3 w wr k n s k' n' s') (hg : w.heap.size + 1 + 1 < g) (u0 u1 u2 u3 u4 : Value) : V3 w (((((wr.setCell ⟨g, 0, none⟩ u0).setCell ⟨g, 1, none⟩ u1).setCell ⟨g, 2, none⟩ u2).setCell ⟨g, 3, none⟩ u3).setCell ⟨g, 4, none⟩ u4) k n s k' n' s' :=
  ((((h.put1 hg 0 _).put1 hg 1 _).put1 hg 2 _).put1 hg 3 _).put1 hg 4 _
theorem par_dig (Q : Nat) : Big.dig Q 0 % 2 = Q % 2 := by
  show Q / 1 % 4294967296 % 2 = _
  omega
theorem mul_lt {n n' : Int} (h0 : -9223372036854775808 ≤ n) (h1 : n ≤ 9223372036854775807) (h0' : -9223372036854775808 ≤ n') (h1' : n' ≤ 9223372036854775807) : n.natAbs * n'.natAbs ≤ 85070591730234615865843651857942052864 := by
  have := Nat.mul_le_mul (show n.natAbs ≤ 9223372036854775808 by omega) (show n'.natAbs ≤ 9223372036854775808 by omega)
  omega

end Go.Proofs.YticljmgcgjibpaaDoor
