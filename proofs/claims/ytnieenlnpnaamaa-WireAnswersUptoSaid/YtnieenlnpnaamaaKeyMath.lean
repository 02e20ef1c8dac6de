/-
  The plain mathematics of chapter 18: keys as bytes. Conditions: none. No program is named here.
-/
import Derived.Test.YtnieenlnpnaamaaCellMath
namespace Go.Proofs.Ytnieenlnpnaamaa.Cell

def esc (l : List UInt8) : List UInt8 := l.flatMap fun c => if c = 0 then [0, 255] else [c]
theorem esc_snoc (l : List UInt8) (c : UInt8) : esc (l ++ [c]) = esc l ++ (if c = 0 then [0, 255] else [c]) := by simp [esc]
theorem esc_len (l : List UInt8) : (esc l).length ≤ 2 * l.length := by
  induction l with
  | nil => simp [esc]
  | cons c l ih =>
    have : esc (c :: l) = (if c = 0 then [0, 255] else [c]) ++ esc l := by simp [esc]
    rw [this, List.length_append, List.length_cons]
    split <;> simp <;> omega
def keyTail (v : Val) : List UInt8 :=
  match v.k.toNat with
  | 1 => [byteOf (v.n % 256).toNat]
  | 2 => be8 ((u64 v.n + 9223372036854775808) % 18446744073709551616)
  | 3 => be8 ((u64 v.n + 9223372036854775808) % 18446744073709551616)
  | 4 => esc (txt v) ++ [0, 0]
  | 5 => esc (txt v) ++ [0, 0]
  | _ => []
def longText (v : Val) : Bool := decide (4 ≤ v.k.toNat) && decide (36 < v.s.size)
/-- A key's bytes: the error, the bytes. -/
def key (v : Val) : Nat × List UInt8 :=
  if rightB v = false then (2, [])
  else if longText v = true then (3, [])
  else (0, v.k :: keyTail v)
theorem key_bad {v : Val} (h : rightB v = false) : key v = (2, []) := by unfold key; rw [if_pos h]
theorem key_long {v : Val} (h : rightB v = true) (h4 : 4 ≤ v.k.toNat) (hs : 36 < v.s.size) : key v = (3, []) := by
  unfold key longText
  rw [if_neg (by simp [h]), if_pos (by simp; omega)]
theorem key_ok {v : Val} {t : List UInt8} (h : rightB v = true) (h4 : 4 ≤ v.k.toNat → v.s.size ≤ 36) (ht : keyTail v = t) : key v = (0, v.k :: t) := by
  unfold key longText
  rw [if_neg (by simp [h]), if_neg (by simp; omega), ht]
theorem right_kind {v : Val} (h : rightB v = true) : v.k.toNat ≤ 5 := by
  unfold rightB at h
  split at h <;> first | omega | cases h
end Go.Proofs.Ytnieenlnpnaamaa.Cell
