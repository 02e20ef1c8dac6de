/-
  The walk of chanceryref18.eight; a literal as a row. Conditions: none.
-/
import Derived.Test.YtnieenlnpnaamaaRight
namespace Go.Proofs.Ytnieenlnpnaamaa
open Go.RowKit
/-- A literal's block is a row of the call's own. -/
theorem own_lit (w : World) (e : TypeId) (l : List UInt8) (n : Nat) (hn : l.length = n) (hm : n ≤ maxLen) : (w.alloc (.cells (l.map B8).toArray e)).ownsRow w.heap.size e 1 (.slice (some ⟨w.heap.size, 0, none⟩) n n) n (l.map B8) := by
  subst hn
  exact ⟨by simp, .inr ⟨w.heap.size, l.length, _, rfl, Nat.le_refl _, heap_alloc_new w _, Nat.le_refl _, hm, by simp, by simp [List.take_of_length_le]⟩⟩
theorem byte_of (m : Nat) (x : Int) (h : x = ((m % 256 : Nat) : Int)) : Value.int .u8 x = B8 (Cell.byteOf m) := by
  unfold B8
  rw [Cell.byteOf_toNat, h]
theorem eight_bytes (u : Nat) : #[Value.int IntKind.u8 ((u : Int) / 256 / 256 / 256 / 256 / 256 / 256 / 256 % 256),
          Value.int IntKind.u8 ((u : Int) / 256 / 256 / 256 / 256 / 256 / 256 % 256),
          Value.int IntKind.u8 ((u : Int) / 256 / 256 / 256 / 256 / 256 % 256),
          Value.int IntKind.u8 ((u : Int) / 256 / 256 / 256 / 256 % 256), Value.int IntKind.u8 ((u : Int) / 256 / 256 / 256 % 256),
          Value.int IntKind.u8 ((u : Int) / 256 / 256 % 256), Value.int IntKind.u8 ((u : Int) / 256 % 256),
          Value.int IntKind.u8 ((u : Int) % 256)] = ((Cell.be8 u).map B8).toArray := by
  rw [byte_of (u / 72057594037927936) _ (by omega), byte_of (u / 281474976710656) _ (by omega), byte_of (u / 1099511627776) _ (by omega), byte_of (u / 4294967296) _ (by omega), byte_of (u / 16777216) _ (by omega), byte_of (u / 65536) _ (by omega), byte_of (u / 256) _ (by omega), byte_of u _ (by omega)]
  rfl
set_option maxHeartbeats 1000000 in
theorem eight_any (u : Nat) (w : World) (hu : u < 18446744073709551616) :
    Calls Try.prog 51 #[.int .u64 (u : Int)] w fun e w' => ∃ v', e = .returned v' ∧ w'.ownsRow w.heap.size 5 1 v' 8 ((Cell.be8 u).map B8) ∧ Below w.heap.size w w' := by
  have hu2 : (u : Int) < 18446744073709551616 := by omega
  have hmk : ∀ w, (Instr.makeSlice 22 (.int .i64 8) (.int .i64 8)).run Try.prog w = .ok (.slice (some ⟨w.heap.size, 0, none⟩) 8 8) (w.alloc (.cells #[.int .u8 0, .int .u8 0, .int .u8 0, .int .u8 0, .int .u8 0, .int .u8 0, .int .u8 0, .int .u8 0] 5)) := fun _ => by kernel_rfl
  go_enter Try.func51, Try.ntmps51
  go_wp2
  go_rounds 9
  go_ret
  rw [eight_bytes]
  exact ⟨_, rfl, own_lit w 5 (Cell.be8 u) 8 rfl (by unfold maxLen; omega), (Below.refl _ _).alloc (Nat.le_refl _) _⟩
end Go.Proofs.Ytnieenlnpnaamaa
