/-
  The walk of WireNone: for every slice of bytes it answers true. Conditions: none.
-/
import Derived.Test.YtnieenlnpnaamaaWireAwake
namespace Go.Proofs.Ytnieenlnpnaamaa
open Go.RowKit

theorem eql_nil_nil (w : World) : (binOp .eql 24 (.pointer none) (.pointer none)).run Try.prog w = .ok (.bool true) w := by
  have h : ∀ d : Nat, (Op.equalIn (d + 1) 24 (.pointer none) (.pointer none)).run Try.prog w = .ok true w := fun d => by
    simp [Op.equalIn, run_underlying Try.underlying24]
  simp only [binOp]
  simp [Op.equal, Op.maxDepth, h 9999]

set_option linter.unusedVariables false in
set_option maxHeartbeats 800000 in
theorem none_walk (A : Option Addr) (n c : Nat) (l : List UInt8) (w : World) (hl : Rb w w.heap.size A n l) (hlc : n ≤ c) (hcm : c ≤ maxLen) :
    Calls Try.prog 5 #[.slice A n c] w fun e w' => e = .returned (.bool true) ∧ Below w.heap.size w w' := by
  clear hl hlc hcm
  have hnn := eql_nil_nil
  obtain ⟨w1, hw1⟩ : ∃ w1, w1 = w.alloc (.cells #[.pointer none, .slice none 0 0, .bool false] 45) := ⟨_, rfl⟩
  have HB1 : Hid (Below w.heap.size w w1) := by rw [hw1]; exact (Below.refl _ _).alloc (Nat.le_refl _) _
  have h0 : w1.cell? ⟨w.heap.size, 0, none⟩ = some (.pointer none) := by rw [hw1]; exact (Blk.new w 45 #[.pointer none, .slice none 0 0, .bool false]).cell 0
  have HZ := hide h0
  have hs := HB1.out.size
  clear h0
  go_enter Try.func5, Try.ntmps5
  go_wp2_with fail
  rw [← hw1]
  clear hw1
  refine (feed_nil _ _ ⟨_, _, _, rfl⟩).mono ?_
  rintro e w' ⟨rfl, rfl⟩
  go_wp2_with fail
  refine (feed_zero _ _ _ ⟨_, _, _, rfl⟩ HZ.out).mono ?_
  rintro e w' ⟨rfl, rfl⟩
  go_wp2_with fail
  refine (left_nil _).mono ?_
  rintro e w' ⟨rfl, rfl⟩
  go_wp2_with fail
  refine (left_zero _ _ HZ.out).mono ?_
  rintro e w' ⟨rfl, rfl⟩
  go_wp2_with fail
  refine (copy_nil _).mono ?_
  rintro e w' ⟨rfl, rfl⟩
  go_wp2_with fail
  refine (copy_zero _ _ HZ.out).mono ?_
  rintro e w' ⟨rfl, rfl⟩
  go_wp2_with fail
  refine (awake_any _).mono ?_
  rintro e w2 ⟨rfl, hb2⟩
  have HB2 := hide (HB1.out.trans (hb2.mono hs))
  clear hb2
  go_wp2_with fail
  go_ret
  exact ⟨rfl, HB2.out⟩
end Go.Proofs.Ytnieenlnpnaamaa
