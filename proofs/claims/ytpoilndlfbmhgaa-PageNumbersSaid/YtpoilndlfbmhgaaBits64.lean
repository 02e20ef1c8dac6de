/-
  Plain: a number's eight bytes turned about, by masks and shifts. Conditions: none. No program is named here.
-/
import Derived.Laws.BitsAllLaws
import Derived.Laws.Bits64
import Derived.IntWalk
namespace Go.Proofs.Ytpoilndlfbmhgaa

/-- A number of eight bytes, its bytes turned about. -/
def rev8 (x : Nat) : Nat :=
  (x % 256) * 256 ^ 7 + (x / 256 % 256) * 256 ^ 6 + (x / 256 ^ 2 % 256) * 256 ^ 5 + (x / 256 ^ 3 % 256) * 256 ^ 4 +
  (x / 256 ^ 4 % 256) * 256 ^ 3 + (x / 256 ^ 5 % 256) * 256 ^ 2 + (x / 256 ^ 6 % 256) * 256 + x / 256 ^ 7 % 256

theorem and_split (x m k : Nat) : x &&& m = (x / 2 ^ k &&& m / 2 ^ k) * 2 ^ k + (x % 2 ^ k &&& m % 2 ^ k) := by
  have h1 := Nat.and_div_two_pow (a := x) (b := m) (n := k)
  have h2 := Nat.and_mod_two_pow (a := x) (b := m) (n := k)
  have := Nat.div_add_mod (x &&& m) (2 ^ k)
  rw [h1, h2, Nat.mul_comm] at this
  exact this.symm
theorem mask_m3 (x : Nat) : x &&& 71777214294589695 = x / 2 ^ 48 % 256 * 2 ^ 48 + x / 2 ^ 32 % 256 * 2 ^ 32 + x / 2 ^ 16 % 256 * 2 ^ 16 + x % 256 := by
  rw [and_split x _ 48, and_split (x % 2 ^ 48) _ 32, and_split (x % 2 ^ 48 % 2 ^ 32) _ 16, show 71777214294589695 / 2 ^ 48 = 255 by decide, show 71777214294589695 % 2 ^ 48 % 2 ^ 32 % 2 ^ 16 = 255 by decide, nat_mask8, nat_mask8, nat_mask8, nat_mask8]
  omega
theorem mask_m4 (x : Nat) : x &&& 281470681808895 = x / 2 ^ 32 % 65536 * 2 ^ 32 + x % 65536 := by
  rw [and_split x _ 32]
  have h16 : ∀ y, y &&& 65535 = y % 65536 := fun y => Nat.and_two_pow_sub_one_eq_mod y 16
  simp only [show 281470681808895 / 2 ^ 32 = 65535 by decide, show 281470681808895 % 2 ^ 32 = 65535 by decide, h16]
  omega

theorem or_split (x m k : Nat) : x ||| m = (x / 2 ^ k ||| m / 2 ^ k) * 2 ^ k + (x % 2 ^ k ||| m % 2 ^ k) := by
  have h1 := Nat.or_div_two_pow (a := x) (b := m) (n := k)
  have h2 := Nat.or_mod_two_pow (a := x) (b := m) (n := k)
  have := Nat.div_add_mod (x ||| m) (2 ^ k)
  rw [h1, h2, Nat.mul_comm] at this
  exact this.symm
theorem or16b (d i P Q : Nat) (hd : d < 256) (hi : i < 256) : (d + 65536 * P) ||| (256 * i + 65536 * Q) = d + 256 * i + 65536 * (P ||| Q) := by
  rw [or_split _ _ 16, show (d + 65536 * P) / 2 ^ 16 = P by omega, show (256 * i + 65536 * Q) / 2 ^ 16 = Q by omega, show (d + 65536 * P) % 2 ^ 16 = d by omega, show (256 * i + 65536 * Q) % 2 ^ 16 = 256 * i by omega, Nat.or_comm d, nat_join 8 (256 * i) d (by omega) (by omega)]
  omega
theorem or32b (d i P Q : Nat) (hd : d < 65536) (hi : i < 65536) : (d + 4294967296 * P) ||| (65536 * i + 4294967296 * Q) = d + 65536 * i + 4294967296 * (P ||| Q) := by
  rw [or_split _ _ 32, show (d + 4294967296 * P) / 2 ^ 32 = P by omega, show (65536 * i + 4294967296 * Q) / 2 ^ 32 = Q by omega, show (d + 4294967296 * P) % 2 ^ 32 = d by omega, show (65536 * i + 4294967296 * Q) % 2 ^ 32 = 65536 * i by omega, Nat.or_comm d, nat_join 16 (65536 * i) d (by omega) (by omega)]
  omega
def sw1 (x : Nat) : Nat := (x / 256 &&& 71777214294589695) ||| ((x &&& 71777214294589695) * 256)
def sw2 (x : Nat) : Nat := (x / 65536 &&& 281470681808895) ||| ((x &&& 281470681808895) * 65536)
def sw3 (x : Nat) : Nat := (x / 4294967296) ||| (x * 4294967296 % 18446744073709551616)
theorem sw1_eq (b0 b1 b2 b3 b4 b5 b6 b7 : Nat) (h0 : b0 < 256) (h1 : b1 < 256) (h2 : b2 < 256) (h3 : b3 < 256) (h4 : b4 < 256) (h5 : b5 < 256) (h6 : b6 < 256) (h7 : b7 < 256) :
    sw1 (b0 + 256 * (b1 + 256 * (b2 + 256 * (b3 + 256 * (b4 + 256 * (b5 + 256 * (b6 + 256 * b7))))))) = b1 + 256 * (b0 + 256 * (b3 + 256 * (b2 + 256 * (b5 + 256 * (b4 + 256 * (b7 + 256 * b6)))))) := by
  unfold sw1
  rw [mask_m3, mask_m3]
  generalize hx : b0 + 256 * (b1 + 256 * (b2 + 256 * (b3 + 256 * (b4 + 256 * (b5 + 256 * (b6 + 256 * b7)))))) = x
  rw [show x / 256 / 2 ^ 48 % 256 = b7 by omega, show x / 256 / 2 ^ 32 % 256 = b5 by omega, show x / 256 / 2 ^ 16 % 256 = b3 by omega, show x / 256 % 256 = b1 by omega, show x / 2 ^ 48 % 256 = b6 by omega, show x / 2 ^ 32 % 256 = b4 by omega, show x / 2 ^ 16 % 256 = b2 by omega, show x % 256 = b0 by omega]
  rw [show b7 * 2 ^ 48 + b5 * 2 ^ 32 + b3 * 2 ^ 16 + b1 = b1 + 65536 * (b3 + 65536 * (b5 + 65536 * (b7 + 65536 * 0))) by omega, show (b6 * 2 ^ 48 + b4 * 2 ^ 32 + b2 * 2 ^ 16 + b0) * 256 = 256 * b0 + 65536 * (256 * b2 + 65536 * (256 * b4 + 65536 * (256 * b6 + 65536 * 0))) by omega,
    or16b _ _ _ _ h1 h0, or16b _ _ _ _ h3 h2, or16b _ _ _ _ h5 h4, or16b _ _ _ _ h7 h6, Nat.or_self]
  omega
theorem sw2_eq (c0 c1 c2 c3 : Nat) (h0 : c0 < 65536) (h1 : c1 < 65536) (h2 : c2 < 65536) (h3 : c3 < 65536) :
    sw2 (c0 + 65536 * (c1 + 65536 * (c2 + 65536 * c3))) = c1 + 65536 * (c0 + 65536 * (c3 + 65536 * c2)) := by
  unfold sw2
  rw [mask_m4, mask_m4]
  generalize hx : c0 + 65536 * (c1 + 65536 * (c2 + 65536 * c3)) = x
  rw [show x / 65536 / 2 ^ 32 % 65536 = c3 by omega, show x / 65536 % 65536 = c1 by omega, show x / 2 ^ 32 % 65536 = c2 by omega, show x % 65536 = c0 by omega]
  rw [show c3 * 2 ^ 32 + c1 = c1 + 4294967296 * (c3 + 4294967296 * 0) by omega, show (c2 * 2 ^ 32 + c0) * 65536 = 65536 * c0 + 4294967296 * (65536 * c2 + 4294967296 * 0) by omega,
    or32b _ _ _ _ h1 h0, or32b _ _ _ _ h3 h2, Nat.or_self]
  omega
theorem sw3_eq (d0 d1 : Nat) (h0 : d0 < 4294967296) (h1 : d1 < 4294967296) : sw3 (d0 + 4294967296 * d1) = d1 + 4294967296 * d0 := by
  unfold sw3
  rw [show (d0 + 4294967296 * d1) / 4294967296 = d1 by omega, show (d0 + 4294967296 * d1) * 4294967296 % 18446744073709551616 = d0 * 4294967296 by omega, Nat.or_comm, nat_join 32 _ _ (by omega) (by omega)]
  omega
theorem rev_sw (x : Nat) (h : x < 18446744073709551616) : sw3 (sw2 (sw1 x)) = rev8 x := by
  unfold rev8
  generalize h0 : x % 256 = b0
  generalize h1 : x / 256 % 256 = b1
  generalize h2 : x / 256 ^ 2 % 256 = b2
  generalize h3 : x / 256 ^ 3 % 256 = b3
  generalize h4 : x / 256 ^ 4 % 256 = b4
  generalize h5 : x / 256 ^ 5 % 256 = b5
  generalize h6 : x / 256 ^ 6 % 256 = b6
  generalize h7 : x / 256 ^ 7 % 256 = b7
  have e : x = b0 + 256 * (b1 + 256 * (b2 + 256 * (b3 + 256 * (b4 + 256 * (b5 + 256 * (b6 + 256 * b7)))))) := by omega
  have hb : b0 < 256 ∧ b1 < 256 ∧ b2 < 256 ∧ b3 < 256 ∧ b4 < 256 ∧ b5 < 256 ∧ b6 < 256 ∧ b7 < 256 := by omega
  clear h0 h1 h2 h3 h4 h5 h6 h7
  obtain ⟨h0, h1, h2, h3, h4, h5, h6, h7⟩ := hb
  rw [e, sw1_eq _ _ _ _ _ _ _ _ h0 h1 h2 h3 h4 h5 h6 h7]
  rw [show b1 + 256 * (b0 + 256 * (b3 + 256 * (b2 + 256 * (b5 + 256 * (b4 + 256 * (b7 + 256 * b6)))))) = (b1 + 256 * b0) + 65536 * ((b3 + 256 * b2) + 65536 * ((b5 + 256 * b4) + 65536 * (b7 + 256 * b6))) by omega,
    sw2_eq _ _ _ _ (by omega) (by omega) (by omega) (by omega),
    show (b3 + 256 * b2) + 65536 * ((b1 + 256 * b0) + 65536 * ((b7 + 256 * b6) + 65536 * (b5 + 256 * b4))) = ((b3 + 256 * b2) + 65536 * (b1 + 256 * b0)) + 4294967296 * ((b7 + 256 * b6) + 65536 * (b5 + 256 * b4)) by omega,
    sw3_eq _ _ (by omega) (by omega)]
  omega
theorem rev8_lt (x : Nat) : rev8 x < 18446744073709551616 := by unfold rev8; omega
end Go.Proofs.Ytpoilndlfbmhgaa
