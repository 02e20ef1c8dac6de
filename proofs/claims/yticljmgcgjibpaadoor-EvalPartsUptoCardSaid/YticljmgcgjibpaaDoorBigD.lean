/-
  The walk of chanceryref17.add: the sum of two signed whole numbers. Conditions: numbers below 2^160, and their sum.
-/
import Derived.Test.YticljmgcgjibpaaDoorBigT
import Derived.RegionCalls
import Derived.Deep.CutBlock
import Derived.Deep.RegionHeld3
namespace Go.Proofs.YticljmgcgjibpaaDoor
open Go.RowKit

theorem undrew {w w2 : World} (h : Below w.drew.heap.size w.drew w2) : Below w.heap.size w w2 := ⟨h.os, h.tape, h.output, h.size, h.block⟩
/-- The sum of signed sizes: its sign and its size. -/
def addOf (na : Bool) (A : Nat) (nb : Bool) (B : Nat) : Bool × Nat := if na = nb then (na, A + B) else if A < B then (nb, B - A) else (na, A - B)
theorem addOf_int (na : Bool) (A : Nat) (nb : Bool) (B : Nat) : signed (addOf na A nb B).1 (addOf na A nb B).2 = signed na A + signed nb B := by
  unfold addOf signed
  by_cases h : A < B <;> cases na <;> cases nb <;> simp [h] <;> omega
theorem Blk.c6 {w : World} {g : Nat} {t : TypeId} {n : Bool} {V : Nat} (h : Blk w g t (G6 n V)) : w.cell? ⟨g, 0, none⟩ = some (.bool n) ∧ w.cell? ⟨g, 1, none⟩ = some (.int .u64 ((Big.dig V 0 : Nat) : Int)) ∧ w.cell? ⟨g, 2, none⟩ = some (.int .u64 ((Big.dig V 1 : Nat) : Int)) ∧ w.cell? ⟨g, 3, none⟩ = some (.int .u64 ((Big.dig V 2 : Nat) : Int)) ∧ w.cell? ⟨g, 4, none⟩ = some (.int .u64 ((Big.dig V 3 : Nat) : Int)) ∧ w.cell? ⟨g, 5, none⟩ = some (.int .u64 ((Big.dig V 4 : Nat) : Int)) :=
  ⟨h.cell 0, h.cell 1, h.cell 2, h.cell 3, h.cell 4, h.cell 5⟩
theorem Blk.f6 {w : World} {g : Nat} {t : TypeId} {cs : Array Value} (h : Blk w g t cs) : w.frozen? ⟨g, 0, none⟩ = false ∧ w.frozen? ⟨g, 1, none⟩ = false ∧ w.frozen? ⟨g, 2, none⟩ = false ∧ w.frozen? ⟨g, 3, none⟩ = false ∧ w.frozen? ⟨g, 4, none⟩ = false ∧ w.frozen? ⟨g, 5, none⟩ = false :=
  ⟨h.frozen 0, h.frozen 1, h.frozen 2, h.frozen 3, h.frozen 4, h.frozen 5⟩
end Go.Proofs.YticljmgcgjibpaaDoor
