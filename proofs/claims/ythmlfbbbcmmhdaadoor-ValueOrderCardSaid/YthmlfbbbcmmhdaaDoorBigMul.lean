/-
  Plain: the product of two whole numbers, digit by digit. Conditions: none. No program is named here.
-/
import Derived.Test.YthmlfbbbcmmhdaaDoorBigMath
namespace Go.Proofs.YthmlfbbbcmmhdaaDoor.Big

theorem P_add (i j : Nat) : P (i + j) = P i * P j := by unfold P; rw [Nat.pow_add]
theorem dig_low {V W k n : Nat} (h : V % P n = W % P n) (hk : k < n) : dig V k = dig W k := by
  obtain ⟨m, rfl⟩ : ∃ m, n = k + 1 + m := ⟨n - (k + 1), by omega⟩
  have h2 : V % P (k + 1) = W % P (k + 1) := by
    rw [← Nat.mod_mul_right_mod V (P (k + 1)) (P m), ← Nat.mod_mul_right_mod W (P (k + 1)) (P m), ← P_add, h]
  rw [mod_succ, mod_succ] at h2
  have m1 := Nat.mod_lt V (P_pos k)
  have m2 := Nat.mod_lt W (P_pos k)
  have e1 : (P k * dig V k + V % P k) / P k = dig V k := by rw [Nat.add_comm, Nat.add_mul_div_left _ _ (P_pos k), Nat.div_eq_of_lt m1, Nat.zero_add]
  have e2 : (P k * dig W k + W % P k) / P k = dig W k := by rw [Nat.add_comm, Nat.add_mul_div_left _ _ (P_pos k), Nat.div_eq_of_lt m2, Nat.zero_add]
  rw [← e1, h2, e2]
/-- What stands before the round i; within it, before the step j. -/
def O (A B i : Nat) : Nat := (A % P i) * B
def T (A B i j : Nat) : Nat := O A B i + dig A i * (B % P j) * P i
def X (A B i j : Nat) : Nat := O A B i % P (i + j) + dig A i * (B % P j) * P i
def car (A B i j : Nat) : Nat := X A B i j / P (i + j)
theorem T_zero (A B i : Nat) : T A B i 0 = O A B i := by unfold T; rw [P_zero, Nat.mod_one]; simp
theorem car_zero (A B i : Nat) : car A B i 0 = 0 := by
  unfold car X
  rw [P_zero, Nat.mod_one, Nat.add_zero, Nat.mul_zero, Nat.zero_mul, Nat.add_zero]
  exact Nat.div_eq_of_lt (Nat.mod_lt _ (P_pos i))
theorem T_eq (A B i j : Nat) : T A B i j = P (i + j) * (O A B i / P (i + j)) + X A B i j := by
  unfold T X
  have := Nat.div_add_mod (O A B i) (P (i + j))
  omega
theorem step_mul (a b pi pj r : Nat) : a * (pj * b + r) * pi = pi * pj * (a * b) + a * r * pi := by
  rw [Nat.mul_add, Nat.add_mul]
  congr 1
  ac_rfl
theorem T_succ (A B i j : Nat) : T A B i (j + 1) = P (i + j) * (O A B i / P (i + j) + dig A i * dig B j) + X A B i j := by
  have e := T_eq A B i j
  unfold T at e ⊢
  rw [mod_succ, step_mul, ← P_add, Nat.mul_add]
  omega
theorem X_succ (A B i j : Nat) : X A B i (j + 1) = P (i + j) * (dig (O A B i) (i + j) + dig A i * dig B j) + X A B i j := by
  unfold X
  rw [mod_succ B, step_mul, ← P_add, show i + (j + 1) = i + j + 1 by omega, mod_succ, Nat.mul_add]
  omega
theorem div_plus {K q x : Nat} (hK : 0 < K) : (K * q + x) / K = q + x / K := by rw [Nat.mul_add_div hK]
theorem mul_dig (A B i j : Nat) : (dig (O A B i) (i + j) + dig A i * dig B j % M + car A B i j) % M = dig (T A B i (j + 1)) (i + j) := by
  unfold car
  conv => rhs; unfold dig
  rw [T_succ, div_plus (P_pos _)]
  have e : O A B i / P (i + j) + dig A i * dig B j + X A B i j / P (i + j) = (O A B i / P (i + j)) + (dig A i * dig B j) + X A B i j / P (i + j) := rfl
  unfold dig
  rw [Nat.add_mod (O A B i / P (i + j) + A / P i % M * (B / P j % M)), Nat.add_mod (O A B i / P (i + j)), Nat.add_mod (O A B i / P (i + j) % M + A / P i % M * (B / P j % M) % M)]
theorem mul_car (A B i j : Nat) : dig A i * dig B j / M + (dig (O A B i) (i + j) + dig A i * dig B j % M + car A B i j) / M = car A B i (j + 1) := by
  unfold car
  rw [X_succ, show i + (j + 1) = i + j + 1 by omega, P_succ, ← Nat.div_div_eq_div_mul, div_plus (P_pos _)]
  obtain ⟨p, hp⟩ : ∃ p, p = dig A i * dig B j := ⟨_, rfl⟩
  rw [← hp]
  obtain ⟨o, ho⟩ : ∃ o, o = dig (O A B i) (i + j) := ⟨_, rfl⟩
  rw [← ho]
  obtain ⟨c, hc⟩ : ∃ c, c = X A B i j / P (i + j) := ⟨_, rfl⟩
  rw [← hc]
  have := Nat.div_add_mod p M
  have e : o + p + c = M * (p / M) + (o + p % M + c) := by omega
  rw [e, div_plus M_pos]
theorem mul_low (A B i j k : Nat) (hk : k < i + j) : dig (T A B i (j + 1)) k = dig (T A B i j) k := by
  refine dig_low ?_ hk
  rw [T_succ, T_eq A B i j, Nat.mul_add_mod, Nat.mul_add_mod]
theorem car_le (A B i j : Nat) : car A B i j < M := by
  unfold car X
  have h1 := Nat.mod_lt (O A B i) (P_pos (i + j))
  have h2 := dig_lt A i
  have h3 := Nat.mod_lt B (P_pos j)
  rw [Nat.div_lt_iff_lt_mul (P_pos _)]
  have h4 : dig A i * (B % P j) * P i ≤ dig A i * P j * P i := Nat.mul_le_mul_right _ (Nat.mul_le_mul_left _ (Nat.le_of_lt h3))
  have h5 : dig A i * P j * P i = dig A i * P (i + j) := by rw [P_add, Nat.mul_assoc, Nat.mul_comm (P j)]
  have h6 : (dig A i + 1) * P (i + j) ≤ M * P (i + j) := Nat.mul_le_mul_right _ h2
  rw [Nat.add_mul, Nat.one_mul] at h6
  omega
/-- The round's end is the next round's start, below 2^160. -/
theorem T_end (A B i k : Nat) (hi : i ≤ 5) (hk : k < 5) : dig (T A B i (5 - i)) k = dig (O A B (i + 1)) k := by
  refine dig_low (n := 5) ?_ hk
  unfold T O
  rw [mod_succ A i, Nat.add_mul, Nat.add_comm]
  rw [Nat.add_mod, Nat.add_mod (P i * dig A i * B)]
  congr 2
  have e5 : P 5 = P i * P (5 - i) := by rw [← P_add, show i + (5 - i) = 5 by omega]
  have e1 : dig A i * (B % P (5 - i)) * P i = P i * (dig A i * (B % P (5 - i))) := Nat.mul_comm _ _
  rw [e1, Nat.mul_assoc, e5, Nat.mul_mod_mul_left, Nat.mul_mod_mul_left]
  congr 1
  rw [Nat.mul_mod, Nat.mod_mod, ← Nat.mul_mod]
theorem O_zero (A B : Nat) : O A B 0 = 0 := by unfold O; rw [P_zero, Nat.mod_one, Nat.zero_mul]
theorem O_end (A B : Nat) (hA : A < P 5) : O A B 5 = A * B := by unfold O; rw [Nat.mod_eq_of_lt hA]
theorem dig_zero (k : Nat) : dig 0 k = 0 := by unfold dig; rw [Nat.zero_div]; rfl
end Go.Proofs.YthmlfbbbcmmhdaaDoor.Big
