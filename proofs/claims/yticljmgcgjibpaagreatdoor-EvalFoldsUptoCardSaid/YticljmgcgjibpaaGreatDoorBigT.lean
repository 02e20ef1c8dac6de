/-
  Plain: whole numbers below 2^160 as five digits of 32 bits. Conditions: none. No program is named here.
-/
import Derived.Test.YticljmgcgjibpaaGreatDoorBase
import Derived.ChangeKeysEq
import Derived.Laws.StructEq
namespace Go.Proofs.YticljmgcgjibpaaGreatDoor.Big

def M : Nat := 4294967296
def P (i : Nat) : Nat := M ^ i
theorem M_pos : 0 < M := by decide
theorem P_pos (i : Nat) : 0 < P i := Nat.pow_pos M_pos
theorem P_succ (i : Nat) : P (i + 1) = P i * M := by unfold P; rw [Nat.pow_succ]
theorem P_zero : P 0 = 1 := rfl
/-- A digit. -/
def dig (V i : Nat) : Nat := V / P i % M
theorem dig_lt (V i : Nat) : dig V i < M := Nat.mod_lt _ M_pos
theorem mod_succ (V i : Nat) : V % P (i + 1) = P i * dig V i + V % P i := by
  unfold dig
  rw [P_succ, Nat.mod_mul, Nat.add_comm]
/-- The carry into a place of a sum. -/
def carry (A B i : Nat) : Nat := (A % P i + B % P i) / P i
theorem carry_zero (A B : Nat) : carry A B 0 = 0 := by unfold carry; rw [P_zero, Nat.mod_one, Nat.mod_one]
theorem add_div (A B i : Nat) : (A + B) / P i = A / P i + B / P i + carry A B i := by
  unfold carry
  have h1 := Nat.div_add_mod A (P i)
  have h2 := Nat.div_add_mod B (P i)
  have e : A + B = (A % P i + B % P i) + P i * (A / P i + B / P i) := by rw [Nat.mul_add]; omega
  rw [e, Nat.add_mul_div_left _ _ (P_pos i)]
  omega
theorem dig_add (A B i : Nat) : (dig A i + dig B i + carry A B i) % M = dig (A + B) i := by
  unfold dig
  rw [add_div, Nat.add_mod, Nat.add_mod (A / P i % M), Nat.mod_mod, Nat.mod_mod, ← Nat.add_mod (A / P i), ← Nat.add_mod]
theorem carry_succ (A B i : Nat) : (dig A i + dig B i + carry A B i) / M = carry A B (i + 1) := by
  unfold carry
  rw [mod_succ A, mod_succ B, P_succ, ← Nat.div_div_eq_div_mul]
  have e : P i * dig A i + A % P i + (P i * dig B i + B % P i) = (A % P i + B % P i) + P i * (dig A i + dig B i) := by rw [Nat.mul_add]; omega
  rw [e, Nat.add_mul_div_left _ _ (P_pos i), Nat.add_comm]
theorem carry_le (A B i : Nat) : carry A B i ≤ 1 := by
  unfold carry
  have h1 := Nat.mod_lt A (P_pos i)
  have h2 := Nat.mod_lt B (P_pos i)
  have : (A % P i + B % P i) / P i < 2 := (Nat.div_lt_iff_lt_mul (P_pos i)).2 (by omega)
  omega
/-- A number's five digits say the number. -/
theorem dig_ext {V W : Nat} (hV : V < P 5) (hW : W < P 5) (h : ∀ i, i < 5 → dig V i = dig W i) : V = W := by
  have key : ∀ i, i ≤ 5 → V % P i = W % P i := by
    intro i
    induction i with
    | zero => intro _; rw [P_zero, Nat.mod_one, Nat.mod_one]
    | succ i ih => intro hi; rw [mod_succ, mod_succ, ih (by omega), h i (by omega)]
  have := key 5 (Nat.le_refl _)
  rwa [Nat.mod_eq_of_lt hV, Nat.mod_eq_of_lt hW] at this
/-- Digits that say a number are its digits. -/
theorem dig_of {V i d lo : Nat} (hlo : lo < P i) (h : V % P (i + 1) = P i * d + lo) : dig V i = d ∧ V % P i = lo := by
  rw [mod_succ] at h
  have hm := Nat.mod_lt V (P_pos i)
  have e1 : (P i * dig V i + V % P i) / P i = dig V i := by rw [Nat.add_comm, Nat.add_mul_div_left _ _ (P_pos i), Nat.div_eq_of_lt hm, Nat.zero_add]
  have e2 : (P i * d + lo) / P i = d := by rw [Nat.add_comm, Nat.add_mul_div_left _ _ (P_pos i), Nat.div_eq_of_lt hlo, Nat.zero_add]
  have : dig V i = d := by rw [← e1, h, e2]
  refine ⟨this, ?_⟩
  rw [this] at h
  omega
/-- The borrow into a place of a difference. -/
def borrow (A B i : Nat) : Nat := if A % P i < B % P i then 1 else 0
theorem borrow_zero (A B : Nat) : borrow A B 0 = 0 := by unfold borrow; rw [P_zero, Nat.mod_one, Nat.mod_one]; rfl
theorem borrow_le (A B i : Nat) : borrow A B i ≤ 1 := by unfold borrow; split <;> omega
theorem lex_lt {K x y a b : Nat} (ha : a < K) (hb : b < K) : K * x + a < K * y + b ↔ x < y ∨ (x = y ∧ a < b) := by
  constructor
  · intro h
    rcases Nat.lt_trichotomy x y with h1 | h1 | h1
    · exact .inl h1
    · subst h1; exact .inr ⟨rfl, by omega⟩
    · have : K * (y + 1) ≤ K * x := Nat.mul_le_mul_left K h1
      rw [Nat.mul_add, Nat.mul_one] at this
      omega
  · rintro (h | ⟨rfl, h⟩)
    · have : K * (x + 1) ≤ K * y := Nat.mul_le_mul_left K h
      rw [Nat.mul_add, Nat.mul_one] at this
      omega
    · omega
theorem borrow_succ (A B i : Nat) : (dig A i + M - dig B i - borrow A B i) / M = 1 - borrow A B (i + 1) := by
  have h1 := dig_lt A i
  have h2 := dig_lt B i
  have h3 := lex_lt (x := dig A i) (y := dig B i) (Nat.mod_lt A (P_pos i)) (Nat.mod_lt B (P_pos i))
  rw [← mod_succ, ← mod_succ] at h3
  have hM : M = 4294967296 := rfl
  rw [hM] at h1 h2 ⊢
  unfold borrow
  by_cases hb : A % P (i + 1) < B % P (i + 1)
  · rw [if_pos hb]
    rcases h3.1 hb with h | ⟨h, h'⟩
    · split <;> omega
    · rw [if_pos h']; omega
  · rw [if_neg hb]
    have h4 : ¬ (dig A i < dig B i ∨ (dig A i = dig B i ∧ A % P i < B % P i)) := fun h => hb (h3.2 h)
    split <;> omega
theorem dig_sub (A B i : Nat) (hAB : B ≤ A) : (dig A i + M - dig B i - borrow A B i) % M = dig (A - B) i := by
  have h1 := dig_lt A i
  have h2 := dig_lt B i
  have h3 := borrow_le A B i
  have ha := dig_add B (A - B) i
  rw [show B + (A - B) = A by omega] at ha
  have hc : carry B (A - B) i = borrow A B i := by
    unfold borrow
    have hc1 := carry_le B (A - B) i
    have e : A % P i = (B % P i + (A - B) % P i) % P i := by rw [← Nat.add_mod, show B + (A - B) = A by omega]
    have m1 := Nat.mod_lt B (P_pos i)
    have m2 := Nat.mod_lt (A - B) (P_pos i)
    have hp := P_pos i
    unfold carry
    obtain ⟨x, hx⟩ : ∃ x, x = B % P i := ⟨_, rfl⟩
    obtain ⟨y, hy⟩ : ∃ y, y = (A - B) % P i := ⟨_, rfl⟩
    obtain ⟨z, hz⟩ : ∃ z, z = A % P i := ⟨_, rfl⟩
    obtain ⟨K, hK⟩ : ∃ K, K = P i := ⟨_, rfl⟩
    rw [← hx, ← hy, ← hz] at e
    rw [← hx] at m1
    rw [← hy] at m2
    rw [← hx, ← hy, ← hz]
    rw [← hK] at e m1 m2 hp ⊢
    clear hx hy hz hK hc1
    by_cases h : x + y < K
    · rw [Nat.mod_eq_of_lt h] at e
      rw [Nat.div_eq_of_lt h, if_neg (by omega)]
    · have e2 : (x + y) % K = x + y - K := by rw [Nat.mod_eq_sub_mod (by omega), Nat.mod_eq_of_lt (by omega)]
      have e3 : (x + y) / K = 1 := by
        apply Nat.div_eq_of_lt_le <;> omega
      rw [e3, if_pos (by omega)]
  rw [hc] at ha
  have h4 := dig_lt (A - B) i
  have hM : M = 4294967296 := rfl
  rw [hM] at h1 h2 h4 ha ⊢
  obtain ⟨x, hx⟩ : ∃ x, x = dig A i := ⟨_, rfl⟩
  obtain ⟨y, hy⟩ : ∃ y, y = dig B i := ⟨_, rfl⟩
  obtain ⟨z, hz⟩ : ∃ z, z = dig (A - B) i := ⟨_, rfl⟩
  obtain ⟨b, hb⟩ : ∃ b, b = borrow A B i := ⟨_, rfl⟩
  rw [← hx] at h1 ha ⊢
  rw [← hy] at h2 ha ⊢
  rw [← hz] at h4 ha ⊢
  rw [← hb] at h3 ha ⊢
  clear hx hy hz hb hc
  omega
/-- Comparing from the top. -/
theorem lt_step (A B i : Nat) : A % P (i + 1) < B % P (i + 1) ↔ dig A i < dig B i ∨ (dig A i = dig B i ∧ A % P i < B % P i) := by
  have h3 := lex_lt (x := dig A i) (y := dig B i) (Nat.mod_lt A (P_pos i)) (Nat.mod_lt B (P_pos i))
  rw [← mod_succ, ← mod_succ] at h3
  exact h3
/-- Dividing from the top: the rest so far is (A / P i) % d. -/
theorem rest_step (A d i : Nat) : (A / P (i + 1) % d * M + dig A i) % d = A / P i % d := by
  have e : A / P i = A / P (i + 1) * M + dig A i := by
    unfold dig
    rw [P_succ, ← Nat.div_div_eq_div_mul, Nat.mul_comm]
    exact (Nat.div_add_mod _ _).symm
  rw [e, Nat.add_mod, Nat.mul_mod, Nat.mod_mod, ← Nat.mul_mod, ← Nat.add_mod]
theorem quot_plain (a x d : Nat) (hd : 0 < d) (hx : x < M) : (a % d * M + x) / d = (a * M + x) / d % M := by
  have h1 := Nat.div_add_mod a d
  obtain ⟨r, hr⟩ : ∃ r, r = a % d := ⟨_, rfl⟩
  obtain ⟨q, hq⟩ : ∃ q, q = a / d := ⟨_, rfl⟩
  have hrd : r < d := by rw [hr]; exact Nat.mod_lt _ hd
  rw [← hr, ← hq] at h1
  rw [← hr]
  have e : a * M + x = d * (q * M) + (r * M + x) := by rw [← h1, Nat.add_mul, Nat.mul_assoc]; omega
  rw [e, Nat.mul_add_div hd, Nat.add_comm (q * M), Nat.add_mul_mod_self_right]
  refine (Nat.mod_eq_of_lt ?_).symm
  rw [Nat.div_lt_iff_lt_mul hd]
  have : (r + 1) * M ≤ d * M := Nat.mul_le_mul_right M hrd
  rw [Nat.add_mul, Nat.one_mul] at this
  rw [Nat.mul_comm M d]
  omega
theorem quot_step (A d i : Nat) (hd : 0 < d) : (A / P (i + 1) % d * M + dig A i) / d = dig (A / d) i := by
  have e : A / P i = A / P (i + 1) * M + dig A i := by
    unfold dig
    rw [P_succ, ← Nat.div_div_eq_div_mul, Nat.mul_comm]
    exact (Nat.div_add_mod _ _).symm
  rw [quot_plain _ _ _ hd (dig_lt A i), ← e]
  unfold dig
  rw [Nat.div_div_eq_div_mul, Nat.div_div_eq_div_mul, Nat.mul_comm d]
end Go.Proofs.YticljmgcgjibpaaGreatDoor.Big

/-
  Plain: the product of two whole numbers, digit by digit. Conditions: none. No program is named here.
-/
namespace Go.Proofs.YticljmgcgjibpaaGreatDoor.Big

theorem P_add (i j : Nat) : P (i + j) = P i * P j := by unfold P; rw [Nat.pow_add]
theorem dig_low {V W k n : Nat} (h : V % P n = W % P n) (hk : k < n) : dig V k = dig W k := by
  obtain ⟨m, rfl⟩ : ∃ m, n = k + 1 + m := ⟨n - (k + 1), by omega⟩
  have h2 : V % P (k + 1) = W % P (k + 1) := by
    rw [← Nat.mod_mul_right_mod V (P (k + 1)) (P m), ← Nat.mod_mul_right_mod W (P (k + 1)) (P m), ← P_add, h]
  rw [mod_succ, mod_succ] at h2
  have m1 := Nat.mod_lt V (P_pos k)
  have m2 := Nat.mod_lt W (P_pos k)
  have e1 : (P k * dig V k + V % P k) / P k = dig V k := by rw [Nat.add_comm, Nat.add_mul_div_left _ _ (P_pos k), Nat.div_eq_of_lt m1, Nat.zero_add]
  have e2 : (P k * dig W k + W % P k) / P k = dig W k := by rw [Nat.add_comm, Nat.add_mul_div_left _ _ (P_pos k), Nat.div_eq_of_lt m2, Nat.zero_add]
  rw [← e1, h2, e2]
/-- What stands before the round i; within it, before the step j. -/
def O (A B i : Nat) : Nat := (A % P i) * B
def T (A B i j : Nat) : Nat := O A B i + dig A i * (B % P j) * P i
def X (A B i j : Nat) : Nat := O A B i % P (i + j) + dig A i * (B % P j) * P i
def car (A B i j : Nat) : Nat := X A B i j / P (i + j)
theorem T_zero (A B i : Nat) : T A B i 0 = O A B i := by unfold T; rw [P_zero, Nat.mod_one]; simp
theorem car_zero (A B i : Nat) : car A B i 0 = 0 := by
  unfold car X
  rw [P_zero, Nat.mod_one, Nat.add_zero, Nat.mul_zero, Nat.zero_mul, Nat.add_zero]
  exact Nat.div_eq_of_lt (Nat.mod_lt _ (P_pos i))
theorem T_eq (A B i j : Nat) : T A B i j = P (i + j) * (O A B i / P (i + j)) + X A B i j := by
  unfold T X
  have := Nat.div_add_mod (O A B i) (P (i + j))
  omega
theorem step_mul (a b pi pj r : Nat) : a * (pj * b + r) * pi = pi * pj * (a * b) + a * r * pi := by
  rw [Nat.mul_add, Nat.add_mul]
  congr 1
  ac_rfl
theorem T_succ (A B i j : Nat) : T A B i (j + 1) = P (i + j) * (O A B i / P (i + j) + dig A i * dig B j) + X A B i j := by
  have e := T_eq A B i j
  unfold T at e ⊢
  rw [mod_succ, step_mul, ← P_add, Nat.mul_add]
  omega
theorem X_succ (A B i j : Nat) : X A B i (j + 1) = P (i + j) * (dig (O A B i) (i + j) + dig A i * dig B j) + X A B i j := by
  unfold X
  rw [mod_succ B, step_mul, ← P_add, show i + (j + 1) = i + j + 1 by omega, mod_succ, Nat.mul_add]
  omega
theorem div_plus {K q x : Nat} (hK : 0 < K) : (K * q + x) / K = q + x / K := by rw [Nat.mul_add_div hK]
theorem mul_dig (A B i j : Nat) : (dig (O A B i) (i + j) + dig A i * dig B j % M + car A B i j) % M = dig (T A B i (j + 1)) (i + j) := by
  unfold car
  conv => rhs; unfold dig
  rw [T_succ, div_plus (P_pos _)]
  have e : O A B i / P (i + j) + dig A i * dig B j + X A B i j / P (i + j) = (O A B i / P (i + j)) + (dig A i * dig B j) + X A B i j / P (i + j) := rfl
  unfold dig
  rw [Nat.add_mod (O A B i / P (i + j) + A / P i % M * (B / P j % M)), Nat.add_mod (O A B i / P (i + j)), Nat.add_mod (O A B i / P (i + j) % M + A / P i % M * (B / P j % M) % M)]
theorem mul_car (A B i j : Nat) : dig A i * dig B j / M + (dig (O A B i) (i + j) + dig A i * dig B j % M + car A B i j) / M = car A B i (j + 1) := by
  unfold car
  rw [X_succ, show i + (j + 1) = i + j + 1 by omega, P_succ, ← Nat.div_div_eq_div_mul, div_plus (P_pos _)]
  obtain ⟨p, hp⟩ : ∃ p, p = dig A i * dig B j := ⟨_, rfl⟩
  rw [← hp]
  obtain ⟨o, ho⟩ : ∃ o, o = dig (O A B i) (i + j) := ⟨_, rfl⟩
  rw [← ho]
  obtain ⟨c, hc⟩ : ∃ c, c = X A B i j / P (i + j) := ⟨_, rfl⟩
  rw [← hc]
  have := Nat.div_add_mod p M
  have e : o + p + c = M * (p / M) + (o + p % M + c) := by omega
  rw [e, div_plus M_pos]
theorem mul_low (A B i j k : Nat) (hk : k < i + j) : dig (T A B i (j + 1)) k = dig (T A B i j) k := by
  refine dig_low ?_ hk
  rw [T_succ, T_eq A B i j, Nat.mul_add_mod, Nat.mul_add_mod]
theorem car_le (A B i j : Nat) : car A B i j < M := by
  unfold car X
  have h1 := Nat.mod_lt (O A B i) (P_pos (i + j))
  have h2 := dig_lt A i
  have h3 := Nat.mod_lt B (P_pos j)
  rw [Nat.div_lt_iff_lt_mul (P_pos _)]
  have h4 : dig A i * (B % P j) * P i ≤ dig A i * P j * P i := Nat.mul_le_mul_right _ (Nat.mul_le_mul_left _ (Nat.le_of_lt h3))
  have h5 : dig A i * P j * P i = dig A i * P (i + j) := by rw [P_add, Nat.mul_assoc, Nat.mul_comm (P j)]
  have h6 : (dig A i + 1) * P (i + j) ≤ M * P (i + j) := Nat.mul_le_mul_right _ h2
  rw [Nat.add_mul, Nat.one_mul] at h6
  omega
/-- The round's end is the next round's start, below 2^160. -/
theorem T_end (A B i k : Nat) (hi : i ≤ 5) (hk : k < 5) : dig (T A B i (5 - i)) k = dig (O A B (i + 1)) k := by
  refine dig_low (n := 5) ?_ hk
  unfold T O
  rw [mod_succ A i, Nat.add_mul, Nat.add_comm]
  rw [Nat.add_mod, Nat.add_mod (P i * dig A i * B)]
  congr 2
  have e5 : P 5 = P i * P (5 - i) := by rw [← P_add, show i + (5 - i) = 5 by omega]
  have e1 : dig A i * (B % P (5 - i)) * P i = P i * (dig A i * (B % P (5 - i))) := Nat.mul_comm _ _
  rw [e1, Nat.mul_assoc, e5, Nat.mul_mod_mul_left, Nat.mul_mod_mul_left]
  congr 1
  rw [Nat.mul_mod, Nat.mod_mod, ← Nat.mul_mod]
theorem O_zero (A B : Nat) : O A B 0 = 0 := by unfold O; rw [P_zero, Nat.mod_one, Nat.zero_mul]
theorem O_end (A B : Nat) (hA : A < P 5) : O A B 5 = A * B := by unfold O; rw [Nat.mod_eq_of_lt hA]
theorem dig_zero (k : Nat) : dig 0 k = 0 := by unfold dig; rw [Nat.zero_div]; rfl
end Go.Proofs.YticljmgcgjibpaaGreatDoor.Big

/-
  The walks of chanceryref17: plus, minus, under: what they do to five digits. Conditions: none.
-/
namespace Go.Proofs.YticljmgcgjibpaaGreatDoor
open Go.RowKit

/-- Five digits as cells. -/
def arr5 (f : Nat → Nat) : Array Value := #[.int .u64 ((f 0 : Nat) : Int), .int .u64 ((f 1 : Nat) : Int), .int .u64 ((f 2 : Nat) : Int), .int .u64 ((f 3 : Nat) : Int), .int .u64 ((f 4 : Nat) : Int)]
def D5 (V : Nat) : Array Value := arr5 (Big.dig V)
theorem arr5_at (f : Nat → Nat) (k : Nat) (h : k < 5) : (arr5 f)[k]? = some (.int .u64 ((f k : Nat) : Int)) := by
  match k, h with
  | 0, _ => rfl
  | 1, _ => rfl
  | 2, _ => rfl
  | 3, _ => rfl
  | 4, _ => rfl
theorem arr5_set (f : Nat → Nat) (k x : Nat) (h : k < 5) : (arr5 f).setIfInBounds k (.int .u64 ((x : Nat) : Int)) = arr5 (fun j => if j = k then x else f j) := by
  match k, h with
  | 0, _ => rfl
  | 1, _ => rfl
  | 2, _ => rfl
  | 3, _ => rfl
  | 4, _ => rfl
theorem arr5_congr {f g : Nat → Nat} (h : ∀ k, k < 5 → f k = g k) : arr5 f = arr5 g := by
  unfold arr5
  rw [h 0 (by omega), h 1 (by omega), h 2 (by omega), h 3 (by omega), h 4 (by omega)]
theorem Blk.c5 {w : World} {g : Nat} {t : TypeId} {f : Nat → Nat} (h : Blk w g t (arr5 f)) : w.cell? ⟨g, 0, none⟩ = some (.int .u64 ((f 0 : Nat) : Int)) ∧ w.cell? ⟨g, 1, none⟩ = some (.int .u64 ((f 1 : Nat) : Int)) ∧ w.cell? ⟨g, 2, none⟩ = some (.int .u64 ((f 2 : Nat) : Int)) ∧ w.cell? ⟨g, 3, none⟩ = some (.int .u64 ((f 3 : Nat) : Int)) ∧ w.cell? ⟨g, 4, none⟩ = some (.int .u64 ((f 4 : Nat) : Int)) :=
  ⟨h.cell 0, h.cell 1, h.cell 2, h.cell 3, h.cell 4⟩
theorem Blk.f5 {w : World} {g : Nat} {t : TypeId} {cs : Array Value} (h : Blk w g t cs) : w.frozen? ⟨g, 0, none⟩ = false ∧ w.frozen? ⟨g, 1, none⟩ = false ∧ w.frozen? ⟨g, 2, none⟩ = false ∧ w.frozen? ⟨g, 3, none⟩ = false ∧ w.frozen? ⟨g, 4, none⟩ = false :=
  ⟨h.frozen 0, h.frozen 1, h.frozen 2, h.frozen 3, h.frozen 4⟩
theorem below_five {B g : Nat} {a w : World} (h : Below B a w) (hg : B ≤ g) (u0 u1 u2 u3 u4 : Value) : Below B a (((((w.setCell ⟨g, 0, none⟩ u0).setCell ⟨g, 1, none⟩ u1).setCell ⟨g, 2, none⟩ u2).setCell ⟨g, 3, none⟩ u3).setCell ⟨g, 4, none⟩ u4) :=
  ((((h.setCell hg _).setCell hg _).setCell hg _).setCell hg _).setCell hg _
/-- The four blocks of a call. -/
def B4 (w wr : World) (A B : Nat) (f : Nat → Nat) : Prop := Blk wr w.heap.size 80 (D5 A) ∧ Blk wr (w.heap.size + 1) 80 (D5 B) ∧ Blk wr (w.heap.size + 1 + 1) 80 (arr5 fun _ => 0) ∧ Blk wr (w.heap.size + 1 + 1 + 1) 80 (arr5 f) ∧ Below w.heap.size w wr
theorem Below.drewN {B : Nat} {a w : World} (h : Below B a w) (q : Nat) : Below B a (w.drewN q) := below_drewN h q
theorem B4.put {w wr : World} {A B : Nat} {f : Nat → Nat} (h : B4 w wr A B f) (q k x : Nat) (hk : k < 5) : B4 w ((wr.drewN q).setCell ⟨w.heap.size + 1 + 1 + 1, k, none⟩ (.int .u64 ((x : Nat) : Int))) A B (fun j => if j = k then x else f j) := by
  obtain ⟨h1, h2, h3, h4, h5⟩ := h
  refine ⟨Blk.far (w := wr.drewN q) h1 (show w.heap.size ≠ w.heap.size + 1 + 1 + 1 by omega) _, Blk.far (w := wr.drewN q) h2 (show w.heap.size + 1 ≠ w.heap.size + 1 + 1 + 1 by omega) _, Blk.far (w := wr.drewN q) h3 (show w.heap.size + 1 + 1 ≠ w.heap.size + 1 + 1 + 1 by omega) _, ?_, (Below.drewN h5 q).setCell (show w.heap.size ≤ w.heap.size + 1 + 1 + 1 by omega) _⟩
  rw [← arr5_set f k x hk]
  exact Blk.put (w := wr.drewN q) h4 k _
theorem B4.fits {w wr : World} {A B : Nat} {f g : Nat → Nat} (h : B4 w wr A B f) (he : ∀ k, k < 5 → f k = g k) : B4 w wr A B g := by
  unfold B4 at h ⊢
  rw [← arr5_congr he]
  exact h
theorem upto_step (d : Nat → Nat) (k j : Nat) : (if j = k then d k else if j < k then d j else 0) = if j < k + 1 then d j else 0 := by
  by_cases h : j = k
  · subst h; rw [if_pos rfl, if_pos (by omega)]
  · rw [if_neg h]
    by_cases h2 : j < k
    · rw [if_pos h2, if_pos (by omega)]
    · rw [if_neg h2, if_neg (by omega)]
theorem B4.new (w : World) (A B : Nat) : B4 w ((((w.alloc (.cells (D5 A) 80)).alloc (.cells (D5 B) 80)).alloc (.cells (arr5 fun _ => 0) 80)).alloc (.cells (arr5 fun _ => 0) 80)) A B (fun _ => 0) := by
  refine ⟨(((Blk.new _ _ _).alloc _).alloc _).alloc _, ?_, ?_, ?_, ?_⟩
  · have := ((Blk.new (w.alloc (.cells (D5 A) 80)) 80 (D5 B)).alloc (.cells (arr5 fun _ => 0) 80)).alloc (.cells (arr5 fun _ => 0) 80)
    simpa using this
  · have := (Blk.new ((w.alloc (.cells (D5 A) 80)).alloc (.cells (D5 B) 80)) 80 (arr5 fun _ => 0)).alloc (.cells (arr5 fun _ => 0) 80)
    simpa using this
  · have := Blk.new (((w.alloc (.cells (D5 A) 80)).alloc (.cells (D5 B) 80)).alloc (.cells (arr5 fun _ => 0) 80)) 80 (arr5 fun _ => 0)
    simpa using this
  · exact ((((Below.refl _ _).alloc (Nat.le_refl _) _).alloc (by simp) _).alloc (by simp; omega) _).alloc (by simp; omega) _

set_option maxRecDepth 8000 in
set_option maxHeartbeats 1600000 in
theorem plus_any (A B : Nat) (w : World) : Calls Tryz.prog 68 #[.agg (D5 A), .agg (D5 B)] w fun e w' => e = .returned (.agg (D5 (A + B))) ∧ Below w.heap.size w w' := by
  go_enter Tryz.func68, Tryz.ntmps68
  go_wp2_with fail
  go_loopw [6, 7] (fun c i wr => ∃ k : Nat, k ≤ 5 ∧ i = .int .i64 (k : Nat) ∧ c = .int .u64 ((Big.carry A B k : Nat) : Int) ∧ B4 w wr A B (fun j => if j < k then Big.dig (A + B) j else 0)) (fun _ i _ => 5 - (intOf i).toNat)
  case atStart => exact ⟨0, by omega, rfl, by rw [Big.carry_zero]; rfl, B4.new w A B⟩
  case round =>
    obtain ⟨k, hk, rfl, rfl, hb⟩ := hrel
    have HB := hide hb
    clear hb
    by_cases hlt : k < 5
    · have hx := Big.dig_lt A k
      have hy := Big.dig_lt B k
      have hc := Big.carry_le A B k
      have hd := Big.dig_add A B k
      have hcs := Big.carry_succ A B k
      rw [show Big.M = 4294967296 from rfl] at hx hy hd hcs
      have a0 : wr.cell? ⟨w.heap.size, k, none⟩ = some (.int .u64 ((Big.dig A k : Nat) : Int)) := (HB.out.1.cell k).trans (arr5_at _ k hlt)
      have b0 : wr.cell? ⟨w.heap.size + 1, k, none⟩ = some (.int .u64 ((Big.dig B k : Nat) : Int)) := (HB.out.2.1.cell k).trans (arr5_at _ k hlt)
      have o0 : wr.cell? ⟨w.heap.size + 1 + 1 + 1, k, none⟩ = some _ := (HB.out.2.2.2.1.cell k).trans (arr5_at _ k hlt)
      have f0 := HB.out.2.2.2.1.frozen k
      obtain ⟨x, ex⟩ : ∃ x, x = Big.dig A k := ⟨_, rfl⟩
      obtain ⟨y, ey⟩ : ∃ x, x = Big.dig B k := ⟨_, rfl⟩
      obtain ⟨c, ec⟩ : ∃ x, x = Big.carry A B k := ⟨_, rfl⟩
      rw [← ex] at a0 hx hd hcs
      rw [← ey] at b0 hy hd hcs
      rw [← ec] at hc hd hcs ⊢
      have HD := hide hd
      have HC := hide hcs
      clear ex ey ec hd hcs
      have s1 : IntKind.u64.wrap ((x : Int) + (y : Int)) = (x : Int) + (y : Int) := by rw [IntKind.wrap_u64]; omega
      have s2 : IntKind.u64.wrap ((x : Int) + (y : Int) + (c : Int)) = (x : Int) + (y : Int) + (c : Int) := by rw [IntKind.wrap_u64]; omega
      have hkI : (k : Int) < 5 := by omega
      go_wp2_with fail
      go_quiet (fail)
      clear s1 s2
      go_wp2_with fail
      have e1 : ((x : Int) + (y : Int) + (c : Int)) % 4294967296 = ((Big.dig (A + B) k : Nat) : Int) := by have := HD.out; omega
      have e2 : ((x : Int) + (y : Int) + (c : Int)) / 4294967296 = ((Big.carry A B (k + 1) : Nat) : Int) := by have := HC.out; omega
      rw [e1, e2]
      go_roundw
      case rel =>
        refine ⟨k + 1, hlt, by go_num, rfl, ?_⟩
        exact (HB.out.put _ k (Big.dig (A + B) k) hlt).fits fun j _ => upto_step _ k j
      case measure => simp [intOf]; omega
    · obtain rfl : k = 5 := by omega
      obtain ⟨-, -, h3, h4, h5⟩ := HB.out
      rw [arr5_congr (g := Big.dig (A + B)) (fun j hj => if_pos hj)] at h4
      obtain ⟨o0, o1, o2, o3, o4⟩ := h4.c5
      obtain ⟨r0, r1, r2, r3, r4⟩ := h3.c5
      obtain ⟨f0, f1, f2, f3, f4⟩ := h3.f5
      have hl := h3.lt
      have HB5 := hide h5
      clear HB h3 h4 h5
      go_wp2_with fail
      refine bodyPost_ret (v := .agg (D5 (A + B))) (by simp [results, Tryz.results68, go_sem, r0, r1, r2, r3, r4, D5, arr5]) rfl ⟨rfl, below_five HB5.out (by omega) _ _ _ _ _⟩

set_option maxRecDepth 8000 in
set_option maxHeartbeats 1600000 in
theorem minus_any (A B : Nat) (w : World) (hAB : B ≤ A) : Calls Tryz.prog 89 #[.agg (D5 A), .agg (D5 B)] w fun e w' => e = .returned (.agg (D5 (A - B))) ∧ Below w.heap.size w w' := by
  go_enter Tryz.func89, Tryz.ntmps89
  go_wp2_with fail
  go_loopw [6, 7] (fun c i wr => ∃ k : Nat, k ≤ 5 ∧ i = .int .i64 (k : Nat) ∧ c = .int .u64 ((Big.borrow A B k : Nat) : Int) ∧ B4 w wr A B (fun j => if j < k then Big.dig (A - B) j else 0)) (fun _ i _ => 5 - (intOf i).toNat)
  case atStart => exact ⟨0, by omega, rfl, by rw [Big.borrow_zero]; rfl, B4.new w A B⟩
  case round =>
    obtain ⟨k, hk, rfl, rfl, hb⟩ := hrel
    have HB := hide hb
    clear hb
    by_cases hlt : k < 5
    · have hx := Big.dig_lt A k
      have hy := Big.dig_lt B k
      have hc := Big.borrow_le A B k
      have hc1 := Big.borrow_le A B (k + 1)
      have hd := Big.dig_sub A B k hAB
      have hcs := Big.borrow_succ A B k
      rw [show Big.M = 4294967296 from rfl] at hx hy hd hcs
      have a0 : wr.cell? ⟨w.heap.size, k, none⟩ = some (.int .u64 ((Big.dig A k : Nat) : Int)) := (HB.out.1.cell k).trans (arr5_at _ k hlt)
      have b0 : wr.cell? ⟨w.heap.size + 1, k, none⟩ = some (.int .u64 ((Big.dig B k : Nat) : Int)) := (HB.out.2.1.cell k).trans (arr5_at _ k hlt)
      have o0 : wr.cell? ⟨w.heap.size + 1 + 1 + 1, k, none⟩ = some _ := (HB.out.2.2.2.1.cell k).trans (arr5_at _ k hlt)
      have f0 := HB.out.2.2.2.1.frozen k
      obtain ⟨x, ex⟩ : ∃ x, x = Big.dig A k := ⟨_, rfl⟩
      obtain ⟨y, ey⟩ : ∃ x, x = Big.dig B k := ⟨_, rfl⟩
      obtain ⟨c, ec⟩ : ∃ x, x = Big.borrow A B k := ⟨_, rfl⟩
      rw [← ex] at a0 hx hd hcs
      rw [← ey] at b0 hy hd hcs
      rw [← ec] at hc hd hcs ⊢
      have HD := hide hd
      have HC := hide hcs
      have HC1 := hide hc1
      clear ex ey ec hd hcs hc1
      have s1 : IntKind.u64.wrap ((x : Int) + 4294967296) = (x : Int) + 4294967296 := by rw [IntKind.wrap_u64]; omega
      have s2 : IntKind.u64.wrap ((x : Int) + 4294967296 - (y : Int)) = (x : Int) + 4294967296 - (y : Int) := by rw [IntKind.wrap_u64]; omega
      have s3 : IntKind.u64.wrap ((x : Int) + 4294967296 - (y : Int) - (c : Int)) = (x : Int) + 4294967296 - (y : Int) - (c : Int) := by rw [IntKind.wrap_u64]; omega
      have hkI : (k : Int) < 5 := by omega
      go_wp2_with fail
      go_quiet (fail)
      clear s1 s2 s3
      have e1 : ((x : Int) + 4294967296 - (y : Int) - (c : Int)) % 4294967296 = ((Big.dig (A - B) k : Nat) : Int) := by have := HD.out; omega
      have e2 : 1 - ((x : Int) + 4294967296 - (y : Int) - (c : Int)) / 4294967296 = ((Big.borrow A B (k + 1) : Nat) : Int) := by have := HC.out; have := HC1.out; omega
      have g1 : 0 ≤ (x : Int) + 4294967296 - (y : Int) - (c : Int) := by omega
      have g2 : (x : Int) + 4294967296 - (y : Int) - (c : Int) ≤ 18446744073709551615 := by omega
      have HE1 := hide e1
      have HE2 := hide e2
      clear e1 e2
      go_wp2_with fail
      rw [HE1.out]
      first | rw [HE2.out] | go_outline
      go_roundw
      case rel =>
        refine ⟨k + 1, hlt, by go_num, rfl, ?_⟩
        exact (HB.out.put _ k (Big.dig (A - B) k) hlt).fits fun j _ => upto_step _ k j
      case measure => simp [intOf]; omega
    · obtain rfl : k = 5 := by omega
      obtain ⟨-, -, h3, h4, h5⟩ := HB.out
      rw [arr5_congr (g := Big.dig (A - B)) (fun j hj => if_pos hj)] at h4
      obtain ⟨o0, o1, o2, o3, o4⟩ := h4.c5
      obtain ⟨r0, r1, r2, r3, r4⟩ := h3.c5
      obtain ⟨f0, f1, f2, f3, f4⟩ := h3.f5
      have hl := h3.lt
      have HB5 := hide h5
      clear HB h3 h4 h5
      go_wp2_with fail
      refine bodyPost_ret (v := .agg (D5 (A - B))) (by simp [results, Tryz.results89, go_sem, r0, r1, r2, r3, r4, D5, arr5]) rfl ⟨rfl, below_five HB5.out (by omega) _ _ _ _ _⟩

/-- The two blocks of a call. -/
def B2 (w wr : World) (A B : Nat) : Prop := Blk wr w.heap.size 80 (D5 A) ∧ Blk wr (w.heap.size + 1) 80 (D5 B) ∧ Below w.heap.size w wr
theorem B2.new (w : World) (A B : Nat) : B2 w ((w.alloc (.cells (D5 A) 80)).alloc (.cells (D5 B) 80)) A B := by
  refine ⟨(Blk.new _ _ _).alloc _, ?_, ?_⟩
  · have := Blk.new (w.alloc (.cells (D5 A) 80)) 80 (D5 B)
    simpa using this
  · exact ((Below.refl _ _).alloc (Nat.le_refl _) _).alloc (by simp) _
theorem B2.drewN {w wr : World} {A B : Nat} (h : B2 w wr A B) (q : Nat) : B2 w (wr.drewN q) A B := ⟨h.1, h.2.1, below_drewN h.2.2 q⟩
def UnderTo (A B k : Nat) : Prop := A < B ↔ A % Big.P k < B % Big.P k
set_option maxRecDepth 8000 in
set_option maxHeartbeats 1600000 in
theorem under_any (A B : Nat) (w : World) (hA : A < Big.P 5) (hB : B < Big.P 5) : Calls Tryz.prog 88 #[.agg (D5 A), .agg (D5 B)] w fun e w' => e = .returned (.bool (decide (A < B))) ∧ Below w.heap.size w w' := by
  obtain ⟨r, hr⟩ : ∃ r, r = decide (A < B) := ⟨_, rfl⟩
  rw [← hr]
  have HR := hide hr
  have h5 : Hid (UnderTo A B 5) := by show _ ↔ _; rw [Nat.mod_eq_of_lt hA, Nat.mod_eq_of_lt hB]
  clear hr hA hB
  go_enter Tryz.func88, Tryz.ntmps88
  go_wp2_with fail
  go_loopw [5] (fun i wr => ((∃ k : Nat, k < 5 ∧ i = .int .i64 (k : Nat) ∧ UnderTo A B (k + 1)) ∨ (i = .int .i64 (-1) ∧ UnderTo A B 0)) ∧ B2 w wr A B) (fun i _ => (intOf i + 1).toNat)
  case atStart => exact ⟨.inl ⟨4, by omega, rfl, h5.out⟩, B2.new w A B⟩
  case round =>
    obtain ⟨hi, hb⟩ := hrel
    have HB := hide hb
    clear hb h5
    rcases hi with ⟨k, hlt, rfl, hu⟩ | ⟨rfl, hu⟩
    · have HU := hide (hu.trans (Big.lt_step A B k))
      clear hu
      have a0 : wr.cell? ⟨w.heap.size, k, none⟩ = some (.int .u64 ((Big.dig A k : Nat) : Int)) := (HB.out.1.cell k).trans (arr5_at _ k hlt)
      have b0 : wr.cell? ⟨w.heap.size + 1, k, none⟩ = some (.int .u64 ((Big.dig B k : Nat) : Int)) := (HB.out.2.1.cell k).trans (arr5_at _ k hlt)
      obtain ⟨x, ex⟩ : ∃ x, x = Big.dig A k := ⟨_, rfl⟩
      obtain ⟨y, ey⟩ : ∃ x, x = Big.dig B k := ⟨_, rfl⟩
      rw [← ex] at a0 HU
      rw [← ey] at b0 HU
      clear ex ey
      have hkI : (k : Int) < 5 := by omega
      by_cases hxy : x = y
      · subst hxy
        have HN : Hid (UnderTo A B k) := by
          refine HU.out.trans ⟨fun h => ?_, fun h => .inr ⟨rfl, h⟩⟩
          rcases h with h | h
          · omega
          · exact h.2
        have t1 : ((x : Int) != (x : Int)) = false := by simp
        go_wp2_with fail
        go_quiet (fail)
        go_wp2_with fail
        go_roundw
        case rel =>
          refine ⟨?_, HB.out.drewN _⟩
          cases k with
          | zero => exact .inr ⟨by go_num, HN.out⟩
          | succ k => exact .inl ⟨k, by omega, by go_num, HN.out⟩
        case measure => simp [intOf]
      · have t1 : ((x : Int) != (y : Int)) = true := by simp; omega
        have HF : Hid (r = decide (x < y)) := by
          show _ = _
          rw [HR.out, Bool.eq_iff_iff, decide_eq_true_eq, decide_eq_true_eq, HU.out]
          omega
        clear hxy
        go_wp2_with fail
        go_quiet (fail)
        go_wp2_with fail
        go_quiet (fail)
        go_wp2_with fail
        go_ret
        exact ⟨by rw [HF.out]; rfl, below_drewN (below_drewN HB.out.2.2 _) _⟩
    · have HF : Hid (r = false) := by
        show _ = _
        rw [HR.out, decide_eq_false_iff_not, (show A < B ↔ A % Big.P 0 < B % Big.P 0 from hu), Big.P_zero, Nat.mod_one, Nat.mod_one]
        omega
      clear hu
      go_wp2_with fail
      go_ret
      exact ⟨by rw [HF.out]; rfl, HB.out.2.2⟩
end Go.Proofs.YticljmgcgjibpaaGreatDoor

/-
  The walks of chanceryref17: less, big, times, told, sign: what they do to whole numbers. Conditions: numbers below 2^160.
-/
namespace Go.Proofs.YticljmgcgjibpaaGreatDoor
open Go.RowKit

theorem Blk.putN {w : World} {g : Nat} {t : TypeId} {f : Nat → Nat} (h : Blk w g t (arr5 f)) (k x : Nat) (hk : k < 5) : Blk (w.setCell ⟨g, k, none⟩ (.int .u64 ((x : Nat) : Int))) g t (arr5 fun j => if j = k then x else f j) := by
  rw [← arr5_set f k x hk]
  exact h.put k _
theorem Blk.fits {w : World} {g : Nat} {t : TypeId} {f f' : Nat → Nat} (h : Blk w g t (arr5 f)) (he : ∀ k, k < 5 → f k = f' k) : Blk w g t (arr5 f') := by rw [← arr5_congr he]; exact h
/-- The three blocks of less. -/
def B3 (w wr : World) (A : Nat) (f : Nat → Nat) : Prop := Blk wr w.heap.size 80 (D5 A) ∧ Blk wr (w.heap.size + 1) 80 (arr5 fun _ => 0) ∧ Blk wr (w.heap.size + 1 + 1) 80 (arr5 f) ∧ Below w.heap.size w wr
theorem B3.new (w : World) (A : Nat) : B3 w (((w.alloc (.cells (D5 A) 80)).alloc (.cells (arr5 fun _ => 0) 80)).alloc (.cells (arr5 fun _ => 0) 80)) A (fun _ => 0) := by
  refine ⟨((Blk.new _ _ _).alloc _).alloc _, ?_, ?_, ?_⟩
  · have := (Blk.new (w.alloc (.cells (D5 A) 80)) 80 (arr5 fun _ => 0)).alloc (.cells (arr5 fun _ => 0) 80)
    simpa using this
  · have := Blk.new ((w.alloc (.cells (D5 A) 80)).alloc (.cells (arr5 fun _ => 0) 80)) 80 (arr5 fun _ => 0)
    simpa using this
  · exact (((Below.refl _ _).alloc (Nat.le_refl _) _).alloc (by simp) _).alloc (by simp; omega) _
theorem B3.put {w wr : World} {A : Nat} {f : Nat → Nat} (h : B3 w wr A f) (k x : Nat) (hk : k < 5) : B3 w (wr.setCell ⟨w.heap.size + 1 + 1, k, none⟩ (.int .u64 ((x : Nat) : Int))) A (fun j => if j = k then x else f j) := by
  obtain ⟨h1, h2, h3, h4⟩ := h
  exact ⟨h1.far (show w.heap.size ≠ w.heap.size + 1 + 1 by omega) _, h2.far (show w.heap.size + 1 ≠ w.heap.size + 1 + 1 by omega) _, h3.putN k x hk, h4.setCell (show w.heap.size ≤ w.heap.size + 1 + 1 by omega) _⟩
theorem B3.fits {w wr : World} {A : Nat} {f g : Nat → Nat} (h : B3 w wr A f) (he : ∀ k, k < 5 → f k = g k) : B3 w wr A g := ⟨h.1, h.2.1, h.2.2.1.fits he, h.2.2.2⟩
theorem down_step (d : Nat → Nat) (k j : Nat) : (if j = k then d k else if k + 1 ≤ j then d j else 0) = if k ≤ j then d j else 0 := by
  by_cases h : j = k
  · subst h; rw [if_pos rfl, if_pos (by omega)]
  · rw [if_neg h]
    by_cases h2 : k ≤ j
    · rw [if_pos h2, if_pos (by omega)]
    · rw [if_neg h2, if_neg (by omega)]
set_option maxRecDepth 8000 in
set_option maxHeartbeats 1600000 in
theorem less_any (A : Nat) (w : World) (hA : A < Big.P 5) : Calls Tryz.prog 67 #[.agg (D5 A)] w fun e w' => e = .returned (.tuple #[.agg (D5 (A / 10000)), .int .u64 ((A % 10000 : Nat) : Int)]) ∧ Below w.heap.size w w' := by
  have h5 : Hid (A / Big.P 5 % 10000 = 0) := by show _ = _; rw [Nat.div_eq_of_lt hA]
  clear hA
  go_enter Tryz.func67, Tryz.ntmps67
  go_wp2_with fail
  go_loopw [5, 6] (fun r i wr => ∃ k : Nat, k ≤ 5 ∧ i = .int .i64 ((k : Int) - 1) ∧ r = .int .u64 ((A / Big.P k % 10000 : Nat) : Int) ∧ B3 w wr A (fun j => if k ≤ j then Big.dig (A / 10000) j else 0)) (fun _ i _ => (intOf i + 1).toNat)
  case atStart => exact ⟨5, by omega, rfl, by rw [h5.out]; rfl, (B3.new w A).fits fun j hj => (if_neg (by omega)).symm⟩
  case round =>
    obtain ⟨k, hk, rfl, rfl, hb⟩ := hrel
    have HB := hide hb
    clear hb h5
    cases k with
    | succ k =>
      have hlt : k < 5 := by omega
      have hx := Big.dig_lt A k
      have hr := Nat.mod_lt (A / Big.P (k + 1)) (show 0 < 10000 by omega)
      have hq := Big.quot_step A 10000 k (by omega)
      have hs := Big.rest_step A 10000 k
      rw [show Big.M = 4294967296 from rfl] at hx hq hs
      have a0 : wr.cell? ⟨w.heap.size, k, none⟩ = some (.int .u64 ((Big.dig A k : Nat) : Int)) := (HB.out.1.cell k).trans (arr5_at _ k hlt)
      have o0 : wr.cell? ⟨w.heap.size + 1 + 1, k, none⟩ = some _ := (HB.out.2.2.1.cell k).trans (arr5_at _ k hlt)
      have f0 := HB.out.2.2.1.frozen k
      obtain ⟨x, ex⟩ : ∃ x, x = Big.dig A k := ⟨_, rfl⟩
      obtain ⟨r, er⟩ : ∃ x, x = A / Big.P (k + 1) % 10000 := ⟨_, rfl⟩
      rw [← ex] at a0 hx hq hs
      rw [← er] at hr hq hs ⊢
      have HQ := hide hq
      have HS := hide hs
      clear ex er hq hs
      have hi : (((k + 1 : Nat) : Int) - 1) = (k : Int) := by omega
      rw [hi]
      clear hi
      have hkI : (k : Int) < 5 := by omega
      go_wp2_with fail
      have e1 : ((r : Int) * 4294967296 + (x : Int)) / 10000 = ((Big.dig (A / 10000) k : Nat) : Int) := by have := HQ.out; omega
      have e2 : ((r : Int) * 4294967296 + (x : Int)) % 10000 = ((A / Big.P k % 10000 : Nat) : Int) := by have := HS.out; omega
      rw [e1, e2]
      go_roundw
      case rel =>
        refine ⟨k, by omega, by go_num, rfl, ?_⟩
        exact (HB.out.put k (Big.dig (A / 10000) k) hlt).fits fun j _ => down_step _ k j
      case measure => simp [intOf]
    | zero =>
      obtain ⟨-, h3, h4, h5⟩ := HB.out
      have h4' := h4.fits (f' := Big.dig (A / 10000)) (fun j hj => if_pos (by omega))
      obtain ⟨o0, o1, o2, o3, o4⟩ := h4'.c5
      obtain ⟨r0, r1, r2, r3, r4⟩ := h3.c5
      obtain ⟨f0, f1, f2, f3, f4⟩ := h3.f5
      have hl := h3.lt
      have HB5 := hide h5
      have HZ : Hid (A / Big.P 0 % 10000 = A % 10000) := by show _ = _; rw [Big.P_zero, Nat.div_one]
      rw [HZ.out, show (((0 : Nat) : Int) - 1) = -1 by omega]
      clear HB h3 h4 h4' h5
      go_wp2_with fail
      refine bodyPost_ret (v := .tuple #[.agg (D5 (A / 10000)), .int .u64 ((A % 10000 : Nat) : Int)]) (by simp [results, Tryz.results67, go_sem, r0, r1, r2, r3, r4, D5, arr5]) rfl ⟨rfl, below_five HB5.out (by omega) _ _ _ _ _⟩
end Go.Proofs.YticljmgcgjibpaaGreatDoor

/-
  The walks of chanceryref17: big, told, sign: what they do to whole numbers. Conditions: numbers below 2^160.
-/
namespace Go.Proofs.YticljmgcgjibpaaGreatDoor
open Go.RowKit

/-- A whole number as cells: its sign, its five digits. -/
def G6 (neg : Bool) (V : Nat) : Array Value := #[.bool neg, .int .u64 ((Big.dig V 0 : Nat) : Int), .int .u64 ((Big.dig V 1 : Nat) : Int), .int .u64 ((Big.dig V 2 : Nat) : Int), .int .u64 ((Big.dig V 3 : Nat) : Int), .int .u64 ((Big.dig V 4 : Nat) : Int)]
theorem dig_small (V : Nat) (h : V ≤ 9223372036854775808) : Big.dig V 0 = V % 4294967296 ∧ Big.dig V 1 = V / 4294967296 ∧ Big.dig V 2 = 0 ∧ Big.dig V 3 = 0 ∧ Big.dig V 4 = 0 := by
  refine ⟨?_, ?_, ?_, ?_, ?_⟩
  · show V / 1 % 4294967296 = _; omega
  · show V / 4294967296 % 4294967296 = _; omega
  · show V / 18446744073709551616 % 4294967296 = _; omega
  · show V / 79228162514264337593543950336 % 4294967296 = _; omega
  · show V / 340282366920938463463374607431768211456 % 4294967296 = _; omega
theorem G6_small (neg : Bool) (V : Nat) (h : V ≤ 9223372036854775808) : G6 neg V = #[.bool neg, .int .u64 ((V % 4294967296 : Nat) : Int), .int .u64 ((V / 4294967296 : Nat) : Int), .int .u64 0, .int .u64 0, .int .u64 0] := by
  obtain ⟨h0, h1, h2, h3, h4⟩ := dig_small V h
  unfold G6
  rw [h0, h1, h2, h3, h4]
  rfl
theorem below_six {B g : Nat} {a w : World} (h : Below B a w) (hg : B ≤ g) (u0 u1 u2 u3 u4 u5 : Value) : Below B a ((((((w.setCell ⟨g, 0, none⟩ u0).setCell ⟨g, 1, none⟩ u1).setCell ⟨g, 2, none⟩ u2).setCell ⟨g, 3, none⟩ u3).setCell ⟨g, 4, none⟩ u4).setCell ⟨g, 5, none⟩ u5) :=
  (((((h.setCell hg _).setCell hg _).setCell hg _).setCell hg _).setCell hg _).setCell hg _
set_option maxHeartbeats 1600000 in
theorem big_any (n : Int) (w : World) (h0 : -9223372036854775808 ≤ n) (h1 : n ≤ 9223372036854775807) : Calls Tryz.prog 62 #[.int .i64 n] w fun e w' => e = .returned (.agg (G6 (decide (n < 0)) n.natAbs)) ∧ Below w.heap.size w w' := by
  have HG := hide (G6_small (decide (n < 0)) n.natAbs (by omega))
  by_cases hn : n < 0
  · rw [decide_eq_true hn] at HG ⊢
    obtain ⟨u, rfl⟩ : ∃ u : Nat, n = -(u : Int) := ⟨n.natAbs, by omega⟩
    rw [show (-(u : Int)).natAbs = u by omega] at HG ⊢
    have hu : u ≤ 9223372036854775808 := by omega
    have hwr : IntKind.u64.wrap (-IntKind.u64.wrap (-(u : Int))) = (u : Int) := by rw [IntKind.wrap_u64, IntKind.wrap_u64]; omega
    go_enter Tryz.func62, Tryz.ntmps62
    go_wp2_with fail
    refine bodyPost_ret (v := .agg #[.bool true, .int .u64 ((u % 4294967296 : Nat) : Int), .int .u64 ((u / 4294967296 : Nat) : Int), .int .u64 0, .int .u64 0, .int .u64 0]) (by simp [results, Tryz.results62, go_sem]) rfl ⟨by rw [HG.out], ?_⟩
    exact (Below.refl _ _).alloc (Nat.le_refl _) _
  · rw [decide_eq_false hn] at HG ⊢
    obtain ⟨u, rfl⟩ : ∃ u : Nat, n = (u : Int) := ⟨n.natAbs, by omega⟩
    rw [show ((u : Int)).natAbs = u by omega] at HG ⊢
    have hu : u ≤ 9223372036854775807 := by omega
    have hwr : IntKind.u64.wrap (u : Int) = (u : Int) := by rw [IntKind.wrap_u64]; omega
    clear hn
    go_enter Tryz.func62, Tryz.ntmps62
    go_wp2_with fail
    refine bodyPost_ret (v := .agg #[.bool false, .int .u64 ((u % 4294967296 : Nat) : Int), .int .u64 ((u / 4294967296 : Nat) : Int), .int .u64 0, .int .u64 0, .int .u64 0]) (by simp [results, Tryz.results62, go_sem]) rfl ⟨by rw [HG.out], ?_⟩
    exact (Below.refl _ _).alloc (Nat.le_refl _) _

/-- The number, if it is an int64. -/
def fit (x : Int) : Option Int := if -9223372036854775808 ≤ x ∧ x ≤ 9223372036854775807 then some x else none
def signed (neg : Bool) (V : Nat) : Int := if neg = true then -(V : Int) else (V : Int)
def fitV (o : Option Int) : Value := .tuple #[.int .i64 (o.getD 0), .bool o.isSome]
theorem dig_top {V : Nat} (hV : V < Big.P 5) : (Big.dig V 2 = 0 ∧ Big.dig V 3 = 0 ∧ Big.dig V 4 = 0) ↔ V < 18446744073709551616 := by
  have hV' : V < 1461501637330902918203684832716283019655932542976 := hV
  have e2 : Big.dig V 2 = V / 18446744073709551616 % 4294967296 := rfl
  have e3 : Big.dig V 3 = V / 79228162514264337593543950336 % 4294967296 := rfl
  have e4 : Big.dig V 4 = V / 340282366920938463463374607431768211456 % 4294967296 := rfl
  rw [e2, e3, e4]
  omega
theorem dig_both {V : Nat} (hV : V < 18446744073709551616) : Big.dig V 1 * 4294967296 + Big.dig V 0 = V := by
  have e0 : Big.dig V 0 = V / 1 % 4294967296 := rfl
  have e1 : Big.dig V 1 = V / 4294967296 % 4294967296 := rfl
  rw [e0, e1]
  omega
set_option maxHeartbeats 3200000 in
theorem told_any (neg : Bool) (V : Nat) (w : World) (hV : V < Big.P 5) : Calls Tryz.prog 87 #[.agg (G6 neg V)] w fun e w' => e = .returned (fitV (fit (signed neg V))) ∧ Below w.heap.size w w' := by
  have htop := dig_top hV
  have l0 := Big.dig_lt V 0
  have l1 := Big.dig_lt V 1
  rw [show Big.M = 4294967296 from rfl] at l0 l1
  obtain ⟨o, ho⟩ : ∃ o, o = fit (signed neg V) := ⟨_, rfl⟩
  rw [← ho]
  unfold fit signed at ho
  have HO := hide ho
  have hbe := (Below.refl w.heap.size w).alloc (Nat.le_refl _) (.cells (G6 neg V) 82)
  have HBE := hide hbe
  clear ho hbe
  unfold G6 at HBE ⊢
  by_cases hs : V < 18446744073709551616
  · obtain ⟨h2, h3, h4⟩ := htop.2 hs
    have hb := dig_both hs
    rw [h2, h3, h4] at HBE ⊢
    obtain ⟨x, ex⟩ : ∃ x, x = Big.dig V 0 := ⟨_, rfl⟩
    obtain ⟨y, ey⟩ : ∃ x, x = Big.dig V 1 := ⟨_, rfl⟩
    rw [← ex] at l0 hb HBE ⊢
    rw [← ey] at l1 hb HBE ⊢
    have hbI : (y : Int) * 4294967296 + (x : Int) = (V : Int) := by omega
    have HBI := hide hbI
    clear ex ey htop h2 h3 h4 hb hbI
    have s1 : IntKind.u64.wrap ((y : Int) * 4294967296) = (y : Int) * 4294967296 := by rw [IntKind.wrap_u64]; omega
    have s2 : IntKind.u64.wrap ((y : Int) * 4294967296 + (x : Int)) = (V : Int) := by rw [IntKind.wrap_u64]; have := HBI.out; omega
    by_cases hq : V < 9223372036854775808
    · have t1 : decide ((V : Int) < 9223372036854775808) = true := by simp; omega
      have s3 : IntKind.i64.wrap (V : Int) = (V : Int) := IntWalk.i64_in _ (by omega)
      have s4 : IntKind.i64.wrap (-(V : Int)) = -(V : Int) := IntWalk.i64_in _ (by omega)
      cases neg with
      | true =>
        have HF : Hid (o = some (-(V : Int))) := by
          show _ = _
          rw [HO.out, if_pos rfl, if_pos (by omega)]
        go_enter Tryz.func87, Tryz.ntmps87
        go_wp2_with fail
        go_ret2
        exact ⟨by rw [HF.out]; rfl, HBE.out⟩
      | false =>
        have HF : Hid (o = some (V : Int)) := by
          show _ = _
          rw [HO.out, if_neg Bool.false_ne_true, if_pos (by omega)]
        go_enter Tryz.func87, Tryz.ntmps87
        go_wp2_with fail
        go_ret2
        exact ⟨by rw [HF.out]; rfl, HBE.out⟩
    · have t1 : decide ((V : Int) < 9223372036854775808) = false := by simp; omega
      by_cases he : V = 9223372036854775808
      · have t2 : ((V : Int) == 9223372036854775808) = true := by simp; omega
        cases neg with
        | true =>
          have HF : Hid (o = some (-9223372036854775808)) := by
            show _ = _
            have e : (V : Int) = 9223372036854775808 := by omega
            rw [HO.out, if_pos rfl, if_pos (by omega), e]
          clear he
          go_enter Tryz.func87, Tryz.ntmps87
          go_wp2_with fail
          go_ret2
          exact ⟨by rw [HF.out]; rfl, HBE.out⟩
        | false =>
          have HF : Hid (o = none) := by
            show _ = _
            rw [HO.out, if_neg Bool.false_ne_true, if_neg (by omega)]
          clear he
          go_enter Tryz.func87, Tryz.ntmps87
          go_wp2_with fail
          go_ret2
          exact ⟨by rw [HF.out]; rfl, HBE.out⟩
      · have t2 : ((V : Int) == 9223372036854775808) = false := by simp; omega
        have HF : Hid (o = none) := by
          show _ = _
          rw [HO.out]
          split
          · rw [if_neg (by omega)]
          · rw [if_neg (by omega)]
        clear he
        go_enter Tryz.func87, Tryz.ntmps87
        go_wp2_with fail
        go_ret2
        exact ⟨by rw [HF.out]; rfl, HBE.out⟩
  · have HF : Hid (o = none) := by
      show _ = _
      rw [HO.out]
      split
      · rw [if_neg (by omega)]
      · rw [if_neg (by omega)]
    have hno : ¬ (Big.dig V 2 = 0 ∧ Big.dig V 3 = 0 ∧ Big.dig V 4 = 0) := fun h => hs (htop.1 h)
    obtain ⟨x2, e2⟩ : ∃ x, x = Big.dig V 2 := ⟨_, rfl⟩
    obtain ⟨x3, e3⟩ : ∃ x, x = Big.dig V 3 := ⟨_, rfl⟩
    obtain ⟨x4, e4⟩ : ∃ x, x = Big.dig V 4 := ⟨_, rfl⟩
    rw [← e2, ← e3, ← e4] at hno HBE ⊢
    clear e2 e3 e4 htop l0 l1
    by_cases h2 : x2 = 0
    · have t2 : ((x2 : Int) != 0) = false := by simp; omega
      by_cases h3 : x3 = 0
      · have t3 : ((x3 : Int) != 0) = false := by simp; omega
        have t4 : ((x4 : Int) != 0) = true := by simp; omega
        clear h2 h3 hno
        go_enter Tryz.func87, Tryz.ntmps87
        go_wp2_with fail
        go_ret2
        exact ⟨by rw [HF.out]; rfl, HBE.out⟩
      · have t3 : ((x3 : Int) != 0) = true := by simp; omega
        clear h2 h3 hno
        go_enter Tryz.func87, Tryz.ntmps87
        go_wp2_with fail
        go_ret2
        exact ⟨by rw [HF.out]; rfl, HBE.out⟩
    · have t2 : ((x2 : Int) != 0) = true := by simp; omega
      clear h2 hno
      go_enter Tryz.func87, Tryz.ntmps87
      go_wp2_with fail
      go_ret2
      exact ⟨by rw [HF.out]; rfl, HBE.out⟩

/-- The sign of a whole number. -/
def signOf (neg : Bool) (V : Nat) : Int := if V = 0 then 0 else if neg = true then -1 else 1
theorem info64 : (Tryz.prog.info? 79).isSome = true := by kernel_rfl
theorem eqGuard5 : Tryz.prog.eqGuardType Tryz.prog.depth 80 = false := by kernel_rfl
theorem cells64 : Tryz.prog.cellsOf 79 = 1 := by kernel_rfl
theorem part5 (w : World) (f : Nat → Nat) (k : Nat) (h : k < 5) : (part 79 (arr5 f) (k * 1)).run Tryz.prog w = .ok (.int .u64 ((f k : Nat) : Int)) w := by
  simp only [part, Sem.run_bind, isAgg, run_underlying Tryz.underlying79, Result.andThen_ok, Sem.run_pure]
  simp [arr5_at f k h]
theorem equal64 (w : World) (d a b : Nat) : (Op.equalIn (d + 1) 79 (.int .u64 (a : Int)) (.int .u64 (b : Int))).run Tryz.prog w = .ok (decide (a = b)) w := by
  rw [run_equalIn_int w d 79 .u64 .u64 _ _ Tryz.underlying79]
  congr 1
  rw [Bool.eq_iff_iff]
  simp
  omega
theorem items5 (w : World) (d : Nat) (f g : Nat → Nat) : ∀ is : List Nat, (∀ i ∈ is, i < 5) → (Op.eqItems (d + 1) 79 1 (arr5 f) (arr5 g) is).run Tryz.prog w = .ok (is.all fun k => decide (f k = g k)) w := by
  intro is
  induction is with
  | nil => intro _; rfl
  | cons i is ih =>
    intro h
    simp only [Op.eqItems, Sem.run_bind, part5 w f i (h i (by simp)), part5 w g i (h i (by simp)), equal64, Result.andThen_ok, List.all_cons]
    cases decide (f i = g i)
    · rfl
    · exact ih fun j hj => h j (by simp [hj])
theorem eql5 (f g : Nat → Nat) (w : World) : (binOp .eql 80 (.agg (arr5 f)) (.agg (arr5 g))).run Tryz.prog w = .ok (.bool (decide (f 0 = g 0) && (decide (f 1 = g 1) && (decide (f 2 = g 2) && (decide (f 3 = g 3) && decide (f 4 = g 4)))))) w := by
  obtain ⟨i, hi⟩ := Option.isSome_iff_exists.1 info64
  have h := run_equalIn_array (P := Tryz.prog) w 9999 (arr5 f) (arr5 g) Tryz.underlying80 hi
  rw [cells64, items5 w 9998 f g (List.range 5) (fun i hi => List.mem_range.1 hi)] at h
  rw [run_eql_struct, h, Result.andThen_ok]
  simp [List.range_succ]
theorem equal5 (f g : Nat → Nat) (w : World) : (Op.equalIn 10000 80 (.agg (arr5 f)) (.agg (arr5 g))).run Tryz.prog w = .ok (decide (f 0 = g 0) && (decide (f 1 = g 1) && (decide (f 2 = g 2) && (decide (f 3 = g 3) && decide (f 4 = g 4))))) w := by
  obtain ⟨i, hi⟩ := Option.isSome_iff_exists.1 info64
  have h := run_equalIn_array (P := Tryz.prog) w 9999 (arr5 f) (arr5 g) Tryz.underlying80 hi
  rw [cells64, items5 w 9998 f g (List.range 5) (fun i hi => List.mem_range.1 hi)] at h
  rw [h]
  simp [List.range_succ]
theorem guard5 (w : World) (op : BinOp) (x y : Operand) (xs ys : Array Value) : (eqGuard op 80 x y (.agg xs) (.agg ys)).run Tryz.prog w = .ok () w := run_eqGuard_agg w op _ x y xs ys eqGuard5
theorem dig_none {V : Nat} (hV : V < Big.P 5) : (decide (Big.dig V 0 = 0) && (decide (Big.dig V 1 = 0) && (decide (Big.dig V 2 = 0) && (decide (Big.dig V 3 = 0) && decide (Big.dig V 4 = 0))))) = decide (V = 0) := by
  rw [Bool.eq_iff_iff]
  simp only [Bool.and_eq_true, decide_eq_true_eq]
  constructor
  · rintro ⟨h0, h1, h2, h3, h4⟩
    refine Big.dig_ext hV (Big.P_pos 5) fun i hi => ?_
    rw [Big.dig_zero]
    match i, hi with
    | 0, _ => exact h0
    | 1, _ => exact h1
    | 2, _ => exact h2
    | 3, _ => exact h3
    | 4, _ => exact h4
  · rintro rfl
    simp [Big.dig_zero]
set_option maxRecDepth 20000 in
set_option maxHeartbeats 1600000 in
theorem sign_any (neg : Bool) (V : Nat) (w : World) (hV : V < Big.P 5) : Calls Tryz.prog 70 #[.agg (G6 neg V)] w fun e w' => e = .returned (.int .i64 (signOf neg V)) ∧ Below w.heap.size w w' := by
  have HBE := hide ((Below.refl w.heap.size w).alloc (Nat.le_refl _) (.cells (G6 neg V) 82))
  obtain ⟨r, hr⟩ : ∃ r, r = signOf neg V := ⟨_, rfl⟩
  rw [← hr]
  unfold signOf at hr
  have HR := hide hr
  have he : ∀ w : World, (binOp .eql 80 (.agg (arr5 (Big.dig V))) (.agg #[.int .u64 0, .int .u64 0, .int .u64 0, .int .u64 0, .int .u64 0])).run Tryz.prog w = .ok (.bool (decide (V = 0))) w := fun w => by
    have := eql5 (Big.dig V) (fun _ => 0) w
    rw [dig_none hV] at this
    exact this
  have u2 := guard5
  unfold G6 at HBE ⊢
  unfold arr5 at he
  clear hr
  by_cases h0 : V = 0
  · rw [decide_eq_true h0] at he
    have HF := hide (HR.out.trans (if_pos h0))
    clear h0 hV
    go_enter Tryz.func70, Tryz.ntmps70
    go_wp2_with fail
    go_ret
    exact ⟨by rw [HF.out]; rfl, HBE.out⟩
  · rw [decide_eq_false h0] at he
    have HF := hide (HR.out.trans (if_neg h0))
    clear h0 hV
    cases neg with
    | true =>
      have HF2 := hide (HF.out.trans (if_pos rfl))
      clear HF
      go_enter Tryz.func70, Tryz.ntmps70
      go_wp2_with fail
      go_ret
      exact ⟨by rw [HF2.out]; rfl, HBE.out⟩
    | false =>
      have HF2 := hide (HF.out.trans (if_neg Bool.false_ne_true))
      clear HF
      go_enter Tryz.func70, Tryz.ntmps70
      go_wp2_with fail
      go_ret
      exact ⟨by rw [HF2.out]; rfl, HBE.out⟩
end Go.Proofs.YticljmgcgjibpaaGreatDoor

/-
  The walk of chanceryref17.times: the product. Conditions: numbers below 2^160.
-/
namespace Go.Proofs.YticljmgcgjibpaaGreatDoor
open Go.RowKit

/-- The four blocks of times. -/
def BT (w wr : World) (na : Bool) (A : Nat) (nb : Bool) (B : Nat) (f : Nat → Nat) : Prop := Blk wr w.heap.size 82 (G6 na A) ∧ Blk wr (w.heap.size + 1) 82 (G6 nb B) ∧ Blk wr (w.heap.size + 1 + 1) 82 (G6 false 0) ∧ Blk wr (w.heap.size + 1 + 1 + 1) 80 (arr5 f) ∧ Below w.heap.size w wr
theorem BT.new (w : World) (na : Bool) (A : Nat) (nb : Bool) (B : Nat) : BT w ((((w.alloc (.cells (G6 na A) 82)).alloc (.cells (G6 nb B) 82)).alloc (.cells (G6 false 0) 82)).alloc (.cells (arr5 fun _ => 0) 80)) na A nb B (fun _ => 0) := by
  refine ⟨(((Blk.new _ _ _).alloc _).alloc _).alloc _, ?_, ?_, ?_, ?_⟩
  · have := ((Blk.new (w.alloc (.cells (G6 na A) 82)) 82 (G6 nb B)).alloc (.cells (G6 false 0) 82)).alloc (.cells (arr5 fun _ => 0) 80)
    simpa using this
  · have := (Blk.new ((w.alloc (.cells (G6 na A) 82)).alloc (.cells (G6 nb B) 82)) 82 (G6 false 0)).alloc (.cells (arr5 fun _ => 0) 80)
    simpa using this
  · have := Blk.new (((w.alloc (.cells (G6 na A) 82)).alloc (.cells (G6 nb B) 82)).alloc (.cells (G6 false 0) 82)) 80 (arr5 fun _ => 0)
    simpa using this
  · exact ((((Below.refl _ _).alloc (Nat.le_refl _) _).alloc (by simp) _).alloc (by simp; omega) _).alloc (by simp; omega) _
theorem BT.put {w wr : World} {na nb : Bool} {A B : Nat} {f : Nat → Nat} (h : BT w wr na A nb B f) (q k x : Nat) (hk : k < 5) : BT w ((wr.drewN q).setCell ⟨w.heap.size + 1 + 1 + 1, k, none⟩ (.int .u64 ((x : Nat) : Int))) na A nb B (fun j => if j = k then x else f j) := by
  obtain ⟨h1, h2, h3, h4, h5⟩ := h
  refine ⟨Blk.far (w := wr.drewN q) h1 (show w.heap.size ≠ w.heap.size + 1 + 1 + 1 by omega) _, Blk.far (w := wr.drewN q) h2 (show w.heap.size + 1 ≠ w.heap.size + 1 + 1 + 1 by omega) _, Blk.far (w := wr.drewN q) h3 (show w.heap.size + 1 + 1 ≠ w.heap.size + 1 + 1 + 1 by omega) _, Blk.putN (w := wr.drewN q) h4 k x hk, (Below.drewN h5 q).setCell (show w.heap.size ≤ w.heap.size + 1 + 1 + 1 by omega) _⟩
theorem BT.fits {w wr : World} {na nb : Bool} {A B : Nat} {f g : Nat → Nat} (h : BT w wr na A nb B f) (he : ∀ k, k < 5 → f k = g k) : BT w wr na A nb B g := ⟨h.1, h.2.1, h.2.2.1, h.2.2.2.1.fits he, h.2.2.2.2⟩
theorem G6_at (neg : Bool) (V k : Nat) (h : k < 5) : (G6 neg V)[1 + k]? = some (.int .u64 ((Big.dig V k : Nat) : Int)) := by
  match k, h with
  | 0, _ => rfl
  | 1, _ => rfl
  | 2, _ => rfl
  | 3, _ => rfl
  | 4, _ => rfl
/-- Within a round: what the places hold. -/
def mid (A B i j q : Nat) : Nat := if q < i + j then Big.dig (Big.T A B i j) q else Big.dig (Big.O A B i) q
theorem mid_step (A B i j q : Nat) : (if q = i + j then Big.dig (Big.T A B i (j + 1)) (i + j) else mid A B i j q) = mid A B i (j + 1) q := by
  unfold mid
  by_cases h : q = i + j
  · subst h
    rw [if_pos rfl, if_pos (by omega)]
  · rw [if_neg h]
    by_cases h2 : q < i + j
    · rw [if_pos h2, if_pos (by omega), Big.mul_low A B i j q h2]
    · rw [if_neg h2, if_neg (by omega)]
theorem mid_start (A B i q : Nat) : Big.dig (Big.O A B i) q = mid A B i 0 q := by
  unfold mid
  rw [Big.T_zero]
  split <;> rfl
theorem mid_end (A B i j q : Nat) (h : i + j = 5) (hq : q < 5) : mid A B i j q = Big.dig (Big.O A B (i + 1)) q := by
  unfold mid
  rw [if_pos (by omega)]
  obtain rfl : j = 5 - i := by omega
  exact Big.T_end A B i q (by omega) hq
theorem G6_zero : G6 false 0 = #[.bool false, .int .u64 0, .int .u64 0, .int .u64 0, .int .u64 0, .int .u64 0] := by rw [G6_small _ _ (by omega)]; rfl

set_option maxRecDepth 20000 in
set_option maxHeartbeats 6400000 in
theorem rtimes_any (na nb : Bool) (A B : Nat) (w : World) (hA : A < Big.P 5) : Calls Tryz.prog 66 #[.agg (G6 na A), .agg (G6 nb B)] w fun e w' => e = .returned (.agg (G6 (na != nb) (A * B))) ∧ Below w.heap.size w w' := by
  have HZ := hide G6_zero
  have HE := hide (Big.O_end A B hA)
  clear hA
  go_enter Tryz.func66, Tryz.ntmps66
  go_wp2_with fail
  go_loopw [6] (fun i wr => ∃ k : Nat, k ≤ 5 ∧ i = .int .i64 (k : Nat) ∧ BT w wr na A nb B (Big.dig (Big.O A B k))) (fun i _ => 5 - (intOf i).toNat)
  case atStart => exact ⟨0, by omega, rfl, by rw [Big.O_zero]; have := BT.new w na A nb B; rw [HZ.out] at this; unfold BT; rw [HZ.out]; exact this.fits fun k _ => (Big.dig_zero k).symm⟩
  case round =>
    obtain ⟨k, hk, rfl, hb⟩ := hrel
    have HB := hide hb
    clear hb
    by_cases hlt : k < 5
    · have hkI : (k : Int) < 5 := by omega
      go_wp2_with fail
      obtain ⟨wo, rfl⟩ : ∃ wo : World, wo = wr := ⟨_, rfl⟩
      go_loopw [7, 8] (fun c j wx => ∃ m : Nat, k + m ≤ 5 ∧ j = .int .i64 (m : Nat) ∧ c = .int .u64 ((Big.car A B k m : Nat) : Int) ∧ BT w wx na A nb B (mid A B k m)) (fun _ j _ => 5 - (intOf j).toNat)
      case atStart => exact ⟨0, by omega, rfl, by rw [Big.car_zero]; rfl, HB.out.fits fun q _ => mid_start A B k q⟩
      case round =>
        obtain ⟨m, hm, rfl, rfl, hb⟩ := hrel
        clear HB
        have HB := hide hb
        clear hb
        by_cases hlm : k + m < 5
        · have hlmI : (k : Int) + (m : Int) < 5 := by omega
          have hx := Big.dig_lt A k
          have hy := Big.dig_lt B m
          have ho := Big.dig_lt (Big.O A B k) (k + m)
          have hc := Big.car_le A B k m
          have hd := Big.mul_dig A B k m
          have hcs := Big.mul_car A B k m
          have hc1 := Big.car_le A B k (m + 1)
          rw [show Big.M = 4294967296 from rfl] at hx hy ho hc hd hcs hc1
          have a0 : wr.cell? ⟨w.heap.size, 1 + k, none⟩ = some (.int .u64 ((Big.dig A k : Nat) : Int)) := (HB.out.1.cell _).trans (G6_at _ _ k hlt)
          have b0 : wr.cell? ⟨w.heap.size + 1, 1 + m, none⟩ = some (.int .u64 ((Big.dig B m : Nat) : Int)) := (HB.out.2.1.cell _).trans (G6_at _ _ m (by omega))
          have o0 : wr.cell? ⟨w.heap.size + 1 + 1 + 1, k + m, none⟩ = some (.int .u64 ((Big.dig (Big.O A B k) (k + m) : Nat) : Int)) := by
            have := (HB.out.2.2.2.1.cell (k + m)).trans (arr5_at _ (k + m) hlm)
            unfold mid at this
            rw [if_neg (by omega)] at this
            exact this
          have f0 := HB.out.2.2.2.1.frozen (k + m)
          obtain ⟨x, ex⟩ : ∃ x, x = Big.dig A k := ⟨_, rfl⟩
          obtain ⟨y, ey⟩ : ∃ x, x = Big.dig B m := ⟨_, rfl⟩
          obtain ⟨o, eo⟩ : ∃ x, x = Big.dig (Big.O A B k) (k + m) := ⟨_, rfl⟩
          obtain ⟨c, ec⟩ : ∃ x, x = Big.car A B k m := ⟨_, rfl⟩
          obtain ⟨c', ec'⟩ : ∃ x, x = Big.car A B k (m + 1) := ⟨_, rfl⟩
          rw [← ex] at a0 hx hd hcs
          rw [← ey] at b0 hy hd hcs
          rw [← eo] at o0 ho hd hcs
          rw [← ec] at hc hd hcs ⊢
          rw [← ec'] at hcs hc1
          have HC' := hide ec'
          obtain ⟨p, hp⟩ : ∃ p, p = x * y := ⟨_, rfl⟩
          have hpl : p ≤ 4294967295 * 4294967295 := by rw [hp]; exact Nat.mul_le_mul (by omega) (by omega)
          have hpI : (x : Int) * (y : Int) = (p : Int) := by rw [hp]; push_cast; rfl
          rw [← hp] at hd hcs
          obtain ⟨s, hs⟩ : ∃ s, s = o + p % 4294967296 + c := ⟨_, rfl⟩
          rw [← hs] at hd hcs
          have s0 : IntKind.u64.wrap ((x : Int) * (y : Int)) = (p : Int) := by rw [IntKind.wrap_u64, hpI]; omega
          have s1 : IntKind.u64.wrap ((o : Int) + (p : Int) % 4294967296) = (o : Int) + (p : Int) % 4294967296 := by rw [IntKind.wrap_u64]; omega
          have s2 : IntKind.u64.wrap ((o : Int) + (p : Int) % 4294967296 + (c : Int)) = (s : Int) := by rw [IntKind.wrap_u64]; omega
          have s3 : IntKind.u64.wrap ((p : Int) / 4294967296 + (s : Int) / 4294967296) = (c' : Int) := by rw [IntKind.wrap_u64]; omega
          have s4 : IntKind.u64.wrap ((p : Int) / 4294967296) = (p : Int) / 4294967296 := by rw [IntKind.wrap_u64]; omega
          have HD : Hid ((s : Int) % 4294967296 = ((Big.dig (Big.T A B k (m + 1)) (k + m) : Nat) : Int)) := by show _ = _; rw [← hd]; omega
          have hsl : s ≤ 18446744073709551615 := by omega
          have hk5 : (k : Int) < 5 := by omega
          have hm5 : (m : Int) < 5 := by omega
          have hkm : ((k : Int) + (m : Int)).toNat = k + m := by omega
          have hkw : IntKind.i64.wrap ((k : Int) + (m : Int)) = (k : Int) + (m : Int) := IntWalk.i64_in _ (by omega)
          have hk0 : 0 ≤ (k : Int) + (m : Int) := by omega
          clear ex ey eo ec ec' hp hs hd hcs hpI hpl
          go_wp2_with fail
          go_quiet (fail)
          go_wp2_with fail
          go_quiet (fail)
          clear s0 s1 s2 s3 s4
          go_wp2_with fail
          rw [HD.out]
          go_roundw
          case rel =>
            refine ⟨m + 1, by omega, by go_num, by rw [HC'.out], ?_⟩
            first
              | exact (HB.out.put _ (k + m) (Big.dig (Big.T A B k (m + 1)) (k + m)) hlm).fits fun q _ => mid_step A B k m q
              | (rw [World.drewN_drewN]; exact (HB.out.put _ (k + m) (Big.dig (Big.T A B k (m + 1)) (k + m)) hlm).fits fun q _ => mid_step A B k m q)
          case measure => simp [intOf]; omega
        · have hlmI : ¬ (k : Int) + (m : Int) < 5 := by omega
          have hlmD : decide ((k : Int) + (m : Int) < 5) = false := by simp; omega
          have HN := hide (HB.out.fits fun q hq => mid_end A B k m q (by omega) hq)
          go_wp2_with fail
          go_roundw
          case rel => exact ⟨k + 1, by omega, by go_num, HN.out⟩
          case measure => simp [intOf]; omega
    · obtain rfl : k = 5 := by omega
      obtain ⟨h1, h2, h3, h4, h5⟩ := HB.out
      rw [HE.out] at h4
      rw [HZ.out] at h3
      obtain ⟨o0, o1, o2, o3, o4⟩ := h4.c5
      have a0 : wr.cell? ⟨w.heap.size, 0, none⟩ = some (.bool na) := h1.cell 0
      have b0 : wr.cell? ⟨w.heap.size + 1, 0, none⟩ = some (.bool nb) := h2.cell 0
      have r0 : wr.cell? ⟨w.heap.size + 1 + 1, 0, none⟩ = some (.bool false) := h3.cell 0
      have r1 : wr.cell? ⟨w.heap.size + 1 + 1, 1, none⟩ = some (.int .u64 0) := h3.cell 1
      have r2 : wr.cell? ⟨w.heap.size + 1 + 1, 2, none⟩ = some (.int .u64 0) := h3.cell 2
      have r3 : wr.cell? ⟨w.heap.size + 1 + 1, 3, none⟩ = some (.int .u64 0) := h3.cell 3
      have r4 : wr.cell? ⟨w.heap.size + 1 + 1, 4, none⟩ = some (.int .u64 0) := h3.cell 4
      have r5 : wr.cell? ⟨w.heap.size + 1 + 1, 5, none⟩ = some (.int .u64 0) := h3.cell 5
      obtain ⟨f0, f1, f2, f3, f4⟩ := h3.f5
      have f5 := h3.frozen 5
      have hl := h3.lt
      have HB5 := hide h5
      clear HB h1 h2 h3 h4 h5
      go_wp2_with fail
      refine bodyPost_ret (v := .agg (G6 (na != nb) (A * B))) (by cases na <;> cases nb <;> simp [results, Tryz.results66, go_sem, r0, r1, r2, r3, r4, r5, G6]) rfl ⟨rfl, below_six HB5.out (by omega) _ _ _ _ _ _⟩
end Go.Proofs.YticljmgcgjibpaaGreatDoor
