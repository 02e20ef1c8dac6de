/-
  Plain: how 128 bits are divided by ten thousand, in two steps of 32 bits. Conditions: the high half is below ten thousand. No program is named here.
-/
namespace Go.Proofs.YticljmgcgjibpaaGreatDoor.Div
/-- The parts of the reckoning. -/
def un32 (hi lo : Nat) : Nat := hi * 1125899906842624 + lo / 16384
def un1 (lo : Nat) : Nat := lo % 16384 * 262144
def q1 (hi lo : Nat) : Nat := un32 hi lo / 2621440000
def r1 (hi lo : Nat) : Nat := un32 hi lo % 2621440000
def un21 (hi lo : Nat) : Nat := r1 hi lo * 4294967296 + un1 lo
def q0 (hi lo : Nat) : Nat := un21 hi lo / 2621440000
def r0 (hi lo : Nat) : Nat := un21 hi lo % 2621440000
theorem whole (hi lo : Nat) (hh : hi < 10000) (hl : lo < 18446744073709551616) : q1 hi lo * 4294967296 + q0 hi lo = (hi * 18446744073709551616 + lo) / 10000 ∧ r0 hi lo = (hi * 18446744073709551616 + lo) % 10000 * 262144 ∧ q1 hi lo < 4294967296 ∧ q0 hi lo < 4294967296 := by
  unfold q1 q0 r0 un21 r1 un1 un32
  omega
end Go.Proofs.YticljmgcgjibpaaGreatDoor.Div
