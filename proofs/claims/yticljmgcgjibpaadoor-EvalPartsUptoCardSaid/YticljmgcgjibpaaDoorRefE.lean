/-
  The walks of chanceryref17: number, fixed, answer, asked. Conditions: numbers within 64 bits.
-/
import Derived.Test.YticljmgcgjibpaaDoorBigD
import Derived.Test.YticljmgcgjibpaaDoorFlow
import Derived.Test.YticljmgcgjibpaaDoorOrdV
import Derived.Test.YticljmgcgjibpaaDoorValMath
namespace Go.Proofs.YticljmgcgjibpaaDoor
open Go.RowKit

/-- A value as the program has it. -/
def valV (v : Cell.Val) : Value := .agg #[.int .u8 (v.k.toNat : Int), .int .i64 v.n, .string v.s]
def ansV (p : Cell.Val × Nat) : Value := .tuple #[valV p.1, .int .i64 ((p.2 : Nat) : Int)]
theorem fit_eq (x : Int) : fit x = Val.fit x := rfl
theorem signed_eq (n : Bool) (V : Nat) : signed n V = Val.signed n V := rfl

theorem P5 : Big.P 5 = 1461501637330902918203684832716283019655932542976 := rfl
/-- The three cells of a value's block. -/
theorem Blk.c3 {w : World} {g : Nat} {t : TypeId} {u0 u1 u2 : Value} (h : Blk w g t #[u0, u1, u2]) : w.cell? ⟨g, 0, none⟩ = some u0 ∧ w.cell? ⟨g, 1, none⟩ = some u1 ∧ w.cell? ⟨g, 2, none⟩ = some u2 := ⟨h.cell 0, h.cell 1, h.cell 2⟩
theorem Blk.f3 {w : World} {g : Nat} {t : TypeId} {cs : Array Value} (h : Blk w g t cs) : w.frozen? ⟨g, 0, none⟩ = false ∧ w.frozen? ⟨g, 1, none⟩ = false ∧ w.frozen? ⟨g, 2, none⟩ = false := ⟨h.frozen 0, h.frozen 1, h.frozen 2⟩
theorem below_three {B g : Nat} {a w : World} (h : Below B a w) (hg : B ≤ g) (u0 u1 u2 : Value) : Below B a (((w.setCell ⟨g, 0, none⟩ u0).setCell ⟨g, 1, none⟩ u1).setCell ⟨g, 2, none⟩ u2) := ((h.setCell hg _).setCell hg _).setCell hg _

end Go.Proofs.YticljmgcgjibpaaDoor
