/-
  The walks of chanceryref17: Neg, Mul. Conditions: numbers within 64 bits. (printed by refneg.py)
-/
import Derived.Test.YticljmgcgjibpaaDoorRefH
namespace Go.Proofs.YticljmgcgjibpaaDoor
open Go.RowKit

theorem asked_null (v : Cell.Val) (h : (Val.asked v Val.vz).2 = 0) : (Val.asked v Val.vz).1 = true := by
  unfold Val.asked at h ⊢
  split at h
  · cases h
  · split at h
    · cases h
    · rename_i h1 h2
      rw [if_neg h1, if_neg h2]
      simp [Val.vz]
/-- A value's block and a zero value's. -/
def NV (w wr : World) (k : UInt8) (n : Int) (s : ByteArray) : Prop := Blk wr w.heap.size 24 #[.int .u8 (k.toNat : Int), .int .i64 n, .string s] ∧ Blk wr (w.heap.size + 1) 24 #[.int .u8 0, .int .i64 0, .string ⟨#[]⟩] ∧ Below w.heap.size w wr
theorem NV.new (w : World) (k : UInt8) (n : Int) (s : ByteArray) : NV w ((w.alloc (.cells #[.int .u8 (k.toNat : Int), .int .i64 n, .string s] 24)).alloc (.cells #[.int .u8 0, .int .i64 0, .string ⟨#[]⟩] 24)) k n s := by
  refine ⟨(Blk.new _ _ _).alloc _, ?_, ((Below.refl _ _).alloc (Nat.le_refl _) _).alloc (by simp) _⟩
  have := Blk.new (w.alloc (.cells #[.int .u8 (k.toNat : Int), .int .i64 n, .string s] 24)) 24 #[.int .u8 0, .int .i64 0, .string ⟨#[]⟩]
  simpa using this
section
variable {w wr w' : World} {k : UInt8} {n : Int} {s : ByteArray}
theorem NV.size (h : NV w wr k n s) : w.heap.size + 1 < wr.heap.size := h.2.1.lt
theorem NV.below (h : NV w wr k n s) (hb : Below wr.heap.size wr w') : NV w w' k n s := by
  have := h.size
  exact ⟨h.1.below hb (by omega), h.2.1.below hb (by omega), h.2.2.trans (hb.mono (by omega))⟩
theorem NV.alloc (h : NV w wr k n s) (o : Obj) : NV w (wr.alloc o) k n s := h.below ((Below.refl _ _).alloc (Nat.le_refl _) o)
end
end Go.Proofs.YticljmgcgjibpaaDoor
