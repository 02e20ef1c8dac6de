/-
  Plain: whole numbers below 2^160 as five digits of 32 bits. Conditions: none. No program is named here.
-/
import Derived.Test.YticljmgcgjibpaaDoorBase
import Derived.ChangeKeysEq
import Derived.Laws.StructEq
namespace Go.Proofs.YticljmgcgjibpaaDoor.Big

def M : Nat := 4294967296
def P (i : Nat) : Nat := M ^ i
theorem M_pos : 0 < M := by decide
theorem P_pos (i : Nat) : 0 < P i := Nat.pow_pos M_pos
theorem P_succ (i : Nat) : P (i + 1) = P i * M := by unfold P; rw [Nat.pow_succ]
theorem P_zero : P 0 = 1 := rfl
/-- A digit. -/
def dig (V i : Nat) : Nat := V / P i % M
theorem dig_lt (V i : Nat) : dig V i < M := Nat.mod_lt _ M_pos
theorem mod_succ (V i : Nat) : V % P (i + 1) = P i * dig V i + V % P i := by
  unfold dig
  rw [P_succ, Nat.mod_mul, Nat.add_comm]
/-- The carry into a place of a sum. -/
def carry (A B i : Nat) : Nat := (A % P i + B % P i) / P i
theorem carry_zero (A B : Nat) : carry A B 0 = 0 := by unfold carry; rw [P_zero, Nat.mod_one, Nat.mod_one]
theorem add_div (A B i : Nat) : (A + B) / P i = A / P i + B / P i + carry A B i := by
  unfold carry
  have h1 := Nat.div_add_mod A (P i)
  have h2 := Nat.div_add_mod B (P i)
  have e : A + B = (A % P i + B % P i) + P i * (A / P i + B / P i) := by rw [Nat.mul_add]; omega
  rw [e, Nat.add_mul_div_left _ _ (P_pos i)]
  omega
theorem dig_add (A B i : Nat) : (dig A i + dig B i + carry A B i) % M = dig (A + B) i := by
  unfold dig
  rw [add_div, Nat.add_mod, Nat.add_mod (A / P i % M), Nat.mod_mod, Nat.mod_mod, ← Nat.add_mod (A / P i), ← Nat.add_mod]
theorem carry_succ (A B i : Nat) : (dig A i + dig B i + carry A B i) / M = carry A B (i + 1) := by
  unfold carry
  rw [mod_succ A, mod_succ B, P_succ, ← Nat.div_div_eq_div_mul]
  have e : P i * dig A i + A % P i + (P i * dig B i + B % P i) = (A % P i + B % P i) + P i * (dig A i + dig B i) := by rw [Nat.mul_add]; omega
  rw [e, Nat.add_mul_div_left _ _ (P_pos i), Nat.add_comm]
theorem carry_le (A B i : Nat) : carry A B i ≤ 1 := by
  unfold carry
  have h1 := Nat.mod_lt A (P_pos i)
  have h2 := Nat.mod_lt B (P_pos i)
  have : (A % P i + B % P i) / P i < 2 := (Nat.div_lt_iff_lt_mul (P_pos i)).2 (by omega)
  omega
/-- A number's five digits say the number. -/
theorem dig_ext {V W : Nat} (hV : V < P 5) (hW : W < P 5) (h : ∀ i, i < 5 → dig V i = dig W i) : V = W := by
  have key : ∀ i, i ≤ 5 → V % P i = W % P i := by
    intro i
    induction i with
    | zero => intro _; rw [P_zero, Nat.mod_one, Nat.mod_one]
    | succ i ih => intro hi; rw [mod_succ, mod_succ, ih (by omega), h i (by omega)]
  have := key 5 (Nat.le_refl _)
  rwa [Nat.mod_eq_of_lt hV, Nat.mod_eq_of_lt hW] at this
/-- Digits that say a number are its digits. -/
theorem dig_of {V i d lo : Nat} (hlo : lo < P i) (h : V % P (i + 1) = P i * d + lo) : dig V i = d ∧ V % P i = lo := by
  rw [mod_succ] at h
  have hm := Nat.mod_lt V (P_pos i)
  have e1 : (P i * dig V i + V % P i) / P i = dig V i := by rw [Nat.add_comm, Nat.add_mul_div_left _ _ (P_pos i), Nat.div_eq_of_lt hm, Nat.zero_add]
  have e2 : (P i * d + lo) / P i = d := by rw [Nat.add_comm, Nat.add_mul_div_left _ _ (P_pos i), Nat.div_eq_of_lt hlo, Nat.zero_add]
  have : dig V i = d := by rw [← e1, h, e2]
  refine ⟨this, ?_⟩
  rw [this] at h
  omega
/-- The borrow into a place of a difference. -/
def borrow (A B i : Nat) : Nat := if A % P i < B % P i then 1 else 0
theorem borrow_zero (A B : Nat) : borrow A B 0 = 0 := by unfold borrow; rw [P_zero, Nat.mod_one, Nat.mod_one]; rfl
theorem borrow_le (A B i : Nat) : borrow A B i ≤ 1 := by unfold borrow; split <;> omega
theorem lex_lt {K x y a b : Nat} (ha : a < K) (hb : b < K) : K * x + a < K * y + b ↔ x < y ∨ (x = y ∧ a < b) := by
  constructor
  · intro h
    rcases Nat.lt_trichotomy x y with h1 | h1 | h1
    · exact .inl h1
    · subst h1; exact .inr ⟨rfl, by omega⟩
    · have : K * (y + 1) ≤ K * x := Nat.mul_le_mul_left K h1
      rw [Nat.mul_add, Nat.mul_one] at this
      omega
  · rintro (h | ⟨rfl, h⟩)
    · have : K * (x + 1) ≤ K * y := Nat.mul_le_mul_left K h
      rw [Nat.mul_add, Nat.mul_one] at this
      omega
    · omega
theorem borrow_succ (A B i : Nat) : (dig A i + M - dig B i - borrow A B i) / M = 1 - borrow A B (i + 1) := by
  have h1 := dig_lt A i
  have h2 := dig_lt B i
  have h3 := lex_lt (x := dig A i) (y := dig B i) (Nat.mod_lt A (P_pos i)) (Nat.mod_lt B (P_pos i))
  rw [← mod_succ, ← mod_succ] at h3
  have hM : M = 4294967296 := rfl
  rw [hM] at h1 h2 ⊢
  unfold borrow
  by_cases hb : A % P (i + 1) < B % P (i + 1)
  · rw [if_pos hb]
    rcases h3.1 hb with h | ⟨h, h'⟩
    · split <;> omega
    · rw [if_pos h']; omega
  · rw [if_neg hb]
    have h4 : ¬ (dig A i < dig B i ∨ (dig A i = dig B i ∧ A % P i < B % P i)) := fun h => hb (h3.2 h)
    split <;> omega
theorem dig_sub (A B i : Nat) (hAB : B ≤ A) : (dig A i + M - dig B i - borrow A B i) % M = dig (A - B) i := by
  have h1 := dig_lt A i
  have h2 := dig_lt B i
  have h3 := borrow_le A B i
  have ha := dig_add B (A - B) i
  rw [show B + (A - B) = A by omega] at ha
  have hc : carry B (A - B) i = borrow A B i := by
    unfold borrow
    have hc1 := carry_le B (A - B) i
    have e : A % P i = (B % P i + (A - B) % P i) % P i := by rw [← Nat.add_mod, show B + (A - B) = A by omega]
    have m1 := Nat.mod_lt B (P_pos i)
    have m2 := Nat.mod_lt (A - B) (P_pos i)
    have hp := P_pos i
    unfold carry
    obtain ⟨x, hx⟩ : ∃ x, x = B % P i := ⟨_, rfl⟩
    obtain ⟨y, hy⟩ : ∃ y, y = (A - B) % P i := ⟨_, rfl⟩
    obtain ⟨z, hz⟩ : ∃ z, z = A % P i := ⟨_, rfl⟩
    obtain ⟨K, hK⟩ : ∃ K, K = P i := ⟨_, rfl⟩
    rw [← hx, ← hy, ← hz] at e
    rw [← hx] at m1
    rw [← hy] at m2
    rw [← hx, ← hy, ← hz]
    rw [← hK] at e m1 m2 hp ⊢
    clear hx hy hz hK hc1
    by_cases h : x + y < K
    · rw [Nat.mod_eq_of_lt h] at e
      rw [Nat.div_eq_of_lt h, if_neg (by omega)]
    · have e2 : (x + y) % K = x + y - K := by rw [Nat.mod_eq_sub_mod (by omega), Nat.mod_eq_of_lt (by omega)]
      have e3 : (x + y) / K = 1 := by
        apply Nat.div_eq_of_lt_le <;> omega
      rw [e3, if_pos (by omega)]
  rw [hc] at ha
  have h4 := dig_lt (A - B) i
  have hM : M = 4294967296 := rfl
  rw [hM] at h1 h2 h4 ha ⊢
  obtain ⟨x, hx⟩ : ∃ x, x = dig A i := ⟨_, rfl⟩
  obtain ⟨y, hy⟩ : ∃ y, y = dig B i := ⟨_, rfl⟩
  obtain ⟨z, hz⟩ : ∃ z, z = dig (A - B) i := ⟨_, rfl⟩
  obtain ⟨b, hb⟩ : ∃ b, b = borrow A B i := ⟨_, rfl⟩
  rw [← hx] at h1 ha ⊢
  rw [← hy] at h2 ha ⊢
  rw [← hz] at h4 ha ⊢
  rw [← hb] at h3 ha ⊢
  clear hx hy hz hb hc
  omega
/-- Comparing from the top. -/
theorem lt_step (A B i : Nat) : A % P (i + 1) < B % P (i + 1) ↔ dig A i < dig B i ∨ (dig A i = dig B i ∧ A % P i < B % P i) := by
  have h3 := lex_lt (x := dig A i) (y := dig B i) (Nat.mod_lt A (P_pos i)) (Nat.mod_lt B (P_pos i))
  rw [← mod_succ, ← mod_succ] at h3
  exact h3
/-- Dividing from the top: the rest so far is (A / P i) % d. -/
theorem rest_step (A d i : Nat) : (A / P (i + 1) % d * M + dig A i) % d = A / P i % d := by
  have e : A / P i = A / P (i + 1) * M + dig A i := by
    unfold dig
    rw [P_succ, ← Nat.div_div_eq_div_mul, Nat.mul_comm]
    exact (Nat.div_add_mod _ _).symm
  rw [e, Nat.add_mod, Nat.mul_mod, Nat.mod_mod, ← Nat.mul_mod, ← Nat.add_mod]
theorem quot_plain (a x d : Nat) (hd : 0 < d) (hx : x < M) : (a % d * M + x) / d = (a * M + x) / d % M := by
  have h1 := Nat.div_add_mod a d
  obtain ⟨r, hr⟩ : ∃ r, r = a % d := ⟨_, rfl⟩
  obtain ⟨q, hq⟩ : ∃ q, q = a / d := ⟨_, rfl⟩
  have hrd : r < d := by rw [hr]; exact Nat.mod_lt _ hd
  rw [← hr, ← hq] at h1
  rw [← hr]
  have e : a * M + x = d * (q * M) + (r * M + x) := by rw [← h1, Nat.add_mul, Nat.mul_assoc]; omega
  rw [e, Nat.mul_add_div hd, Nat.add_comm (q * M), Nat.add_mul_mod_self_right]
  refine (Nat.mod_eq_of_lt ?_).symm
  rw [Nat.div_lt_iff_lt_mul hd]
  have : (r + 1) * M ≤ d * M := Nat.mul_le_mul_right M hrd
  rw [Nat.add_mul, Nat.one_mul] at this
  rw [Nat.mul_comm M d]
  omega
theorem quot_step (A d i : Nat) (hd : 0 < d) : (A / P (i + 1) % d * M + dig A i) / d = dig (A / d) i := by
  have e : A / P i = A / P (i + 1) * M + dig A i := by
    unfold dig
    rw [P_succ, ← Nat.div_div_eq_div_mul, Nat.mul_comm]
    exact (Nat.div_add_mod _ _).symm
  rw [quot_plain _ _ _ hd (dig_lt A i), ← e]
  unfold dig
  rw [Nat.div_div_eq_div_mul, Nat.div_div_eq_div_mul, Nat.mul_comm d]
end Go.Proofs.YticljmgcgjibpaaDoor.Big

/-
  Plain: the product of two whole numbers, digit by digit. Conditions: none. No program is named here.
-/
namespace Go.Proofs.YticljmgcgjibpaaDoor.Big

theorem P_add (i j : Nat) : P (i + j) = P i * P j := by unfold P; rw [Nat.pow_add]
theorem dig_low {V W k n : Nat} (h : V % P n = W % P n) (hk : k < n) : dig V k = dig W k := by
  obtain ⟨m, rfl⟩ : ∃ m, n = k + 1 + m := ⟨n - (k + 1), by omega⟩
  have h2 : V % P (k + 1) = W % P (k + 1) := by
    rw [← Nat.mod_mul_right_mod V (P (k + 1)) (P m), ← Nat.mod_mul_right_mod W (P (k + 1)) (P m), ← P_add, h]
  rw [mod_succ, mod_succ] at h2
  have m1 := Nat.mod_lt V (P_pos k)
  have m2 := Nat.mod_lt W (P_pos k)
  have e1 : (P k * dig V k + V % P k) / P k = dig V k := by rw [Nat.add_comm, Nat.add_mul_div_left _ _ (P_pos k), Nat.div_eq_of_lt m1, Nat.zero_add]
  have e2 : (P k * dig W k + W % P k) / P k = dig W k := by rw [Nat.add_comm, Nat.add_mul_div_left _ _ (P_pos k), Nat.div_eq_of_lt m2, Nat.zero_add]
  rw [← e1, h2, e2]
/-- What stands before the round i; within it, before the step j. -/
def O (A B i : Nat) : Nat := (A % P i) * B
def T (A B i j : Nat) : Nat := O A B i + dig A i * (B % P j) * P i
def X (A B i j : Nat) : Nat := O A B i % P (i + j) + dig A i * (B % P j) * P i
def car (A B i j : Nat) : Nat := X A B i j / P (i + j)
theorem T_zero (A B i : Nat) : T A B i 0 = O A B i := by unfold T; rw [P_zero, Nat.mod_one]; simp
theorem car_zero (A B i : Nat) : car A B i 0 = 0 := by
  unfold car X
  rw [P_zero, Nat.mod_one, Nat.add_zero, Nat.mul_zero, Nat.zero_mul, Nat.add_zero]
  exact Nat.div_eq_of_lt (Nat.mod_lt _ (P_pos i))
theorem T_eq (A B i j : Nat) : T A B i j = P (i + j) * (O A B i / P (i + j)) + X A B i j := by
  unfold T X
  have := Nat.div_add_mod (O A B i) (P (i + j))
  omega
theorem step_mul (a b pi pj r : Nat) : a * (pj * b + r) * pi = pi * pj * (a * b) + a * r * pi := by
  rw [Nat.mul_add, Nat.add_mul]
  congr 1
  ac_rfl
theorem T_succ (A B i j : Nat) : T A B i (j + 1) = P (i + j) * (O A B i / P (i + j) + dig A i * dig B j) + X A B i j := by
  have e := T_eq A B i j
  unfold T at e ⊢
  rw [mod_succ, step_mul, ← P_add, Nat.mul_add]
  omega
theorem X_succ (A B i j : Nat) : X A B i (j + 1) = P (i + j) * (dig (O A B i) (i + j) + dig A i * dig B j) + X A B i j := by
  unfold X
  rw [mod_succ B, step_mul, ← P_add, show i + (j + 1) = i + j + 1 by omega, mod_succ, Nat.mul_add]
  omega
theorem div_plus {K q x : Nat} (hK : 0 < K) : (K * q + x) / K = q + x / K := by rw [Nat.mul_add_div hK]
theorem mul_dig (A B i j : Nat) : (dig (O A B i) (i + j) + dig A i * dig B j % M + car A B i j) % M = dig (T A B i (j + 1)) (i + j) := by
  unfold car
  conv => rhs; unfold dig
  rw [T_succ, div_plus (P_pos _)]
  have e : O A B i / P (i + j) + dig A i * dig B j + X A B i j / P (i + j) = (O A B i / P (i + j)) + (dig A i * dig B j) + X A B i j / P (i + j) := rfl
  unfold dig
  rw [Nat.add_mod (O A B i / P (i + j) + A / P i % M * (B / P j % M)), Nat.add_mod (O A B i / P (i + j)), Nat.add_mod (O A B i / P (i + j) % M + A / P i % M * (B / P j % M) % M)]
theorem mul_car (A B i j : Nat) : dig A i * dig B j / M + (dig (O A B i) (i + j) + dig A i * dig B j % M + car A B i j) / M = car A B i (j + 1) := by
  unfold car
  rw [X_succ, show i + (j + 1) = i + j + 1 by omega, P_succ, ← Nat.div_div_eq_div_mul, div_plus (P_pos _)]
  obtain ⟨p, hp⟩ : ∃ p, p = dig A i * dig B j := ⟨_, rfl⟩
  rw [← hp]
  obtain ⟨o, ho⟩ : ∃ o, o = dig (O A B i) (i + j) := ⟨_, rfl⟩
  rw [← ho]
  obtain ⟨c, hc⟩ : ∃ c, c = X A B i j / P (i + j) := ⟨_, rfl⟩
  rw [← hc]
  have := Nat.div_add_mod p M
  have e : o + p + c = M * (p / M) + (o + p % M + c) := by omega
  rw [e, div_plus M_pos]
theorem mul_low (A B i j k : Nat) (hk : k < i + j) : dig (T A B i (j + 1)) k = dig (T A B i j) k := by
  refine dig_low ?_ hk
  rw [T_succ, T_eq A B i j, Nat.mul_add_mod, Nat.mul_add_mod]
theorem car_le (A B i j : Nat) : car A B i j < M := by
  unfold car X
  have h1 := Nat.mod_lt (O A B i) (P_pos (i + j))
  have h2 := dig_lt A i
  have h3 := Nat.mod_lt B (P_pos j)
  rw [Nat.div_lt_iff_lt_mul (P_pos _)]
  have h4 : dig A i * (B % P j) * P i ≤ dig A i * P j * P i := Nat.mul_le_mul_right _ (Nat.mul_le_mul_left _ (Nat.le_of_lt h3))
  have h5 : dig A i * P j * P i = dig A i * P (i + j) := by rw [P_add, Nat.mul_assoc, Nat.mul_comm (P j)]
  have h6 : (dig A i + 1) * P (i + j) ≤ M * P (i + j) := Nat.mul_le_mul_right _ h2
  rw [Nat.add_mul, Nat.one_mul] at h6
  omega
/-- The round's end is the next round's start, below 2^160. -/
theorem T_end (A B i k : Nat) (hi : i ≤ 5) (hk : k < 5) : dig (T A B i (5 - i)) k = dig (O A B (i + 1)) k := by
  refine dig_low (n := 5) ?_ hk
  unfold T O
  rw [mod_succ A i, Nat.add_mul, Nat.add_comm]
  rw [Nat.add_mod, Nat.add_mod (P i * dig A i * B)]
  congr 2
  have e5 : P 5 = P i * P (5 - i) := by rw [← P_add, show i + (5 - i) = 5 by omega]
  have e1 : dig A i * (B % P (5 - i)) * P i = P i * (dig A i * (B % P (5 - i))) := Nat.mul_comm _ _
  rw [e1, Nat.mul_assoc, e5, Nat.mul_mod_mul_left, Nat.mul_mod_mul_left]
  congr 1
  rw [Nat.mul_mod, Nat.mod_mod, ← Nat.mul_mod]
theorem O_zero (A B : Nat) : O A B 0 = 0 := by unfold O; rw [P_zero, Nat.mod_one, Nat.zero_mul]
theorem O_end (A B : Nat) (hA : A < P 5) : O A B 5 = A * B := by unfold O; rw [Nat.mod_eq_of_lt hA]
theorem dig_zero (k : Nat) : dig 0 k = 0 := by unfold dig; rw [Nat.zero_div]; rfl
end Go.Proofs.YticljmgcgjibpaaDoor.Big

/-
  The walks of chanceryref17: plus, minus, under: what they do to five digits. Conditions: none.
-/
namespace Go.Proofs.YticljmgcgjibpaaDoor
open Go.RowKit

/-- Five digits as cells. -/
def arr5 (f : Nat → Nat) : Array Value := #[.int .u64 ((f 0 : Nat) : Int), .int .u64 ((f 1 : Nat) : Int), .int .u64 ((f 2 : Nat) : Int), .int .u64 ((f 3 : Nat) : Int), .int .u64 ((f 4 : Nat) : Int)]
def D5 (V : Nat) : Array Value := arr5 (Big.dig V)
theorem arr5_at (f : Nat → Nat) (k : Nat) (h : k < 5) : (arr5 f)[k]? = some (.int .u64 ((f k : Nat) : Int)) := by
  match k, h with
  | 0, _ => rfl
  | 1, _ => rfl
  | 2, _ => rfl
  | 3, _ => rfl
  | 4, _ => rfl
theorem arr5_set (f : Nat → Nat) (k x : Nat) (h : k < 5) : (arr5 f).setIfInBounds k (.int .u64 ((x : Nat) : Int)) = arr5 (fun j => if j = k then x else f j) := by
  match k, h with
  | 0, _ => rfl
  | 1, _ => rfl
  | 2, _ => rfl
  | 3, _ => rfl
  | 4, _ => rfl
theorem arr5_congr {f g : Nat → Nat} (h : ∀ k, k < 5 → f k = g k) : arr5 f = arr5 g := by
  unfold arr5
  rw [h 0 (by omega), h 1 (by omega), h 2 (by omega), h 3 (by omega), h 4 (by omega)]
theorem Blk.c5 {w : World} {g : Nat} {t : TypeId} {f : Nat → Nat} (h : Blk w g t (arr5 f)) : w.cell? ⟨g, 0, none⟩ = some (.int .u64 ((f 0 : Nat) : Int)) ∧ w.cell? ⟨g, 1, none⟩ = some (.int .u64 ((f 1 : Nat) : Int)) ∧ w.cell? ⟨g, 2, none⟩ = some (.int .u64 ((f 2 : Nat) : Int)) ∧ w.cell? ⟨g, 3, none⟩ = some (.int .u64 ((f 3 : Nat) : Int)) ∧ w.cell? ⟨g, 4, none⟩ = some (.int .u64 ((f 4 : Nat) : Int)) :=
  ⟨h.cell 0, h.cell 1, h.cell 2, h.cell 3, h.cell 4⟩
theorem Blk.f5 {w : World} {g : Nat} {t : TypeId} {cs : Array Value} (h : Blk w g t cs) : w.frozen? ⟨g, 0, none⟩ = false ∧ w.frozen? ⟨g, 1, none⟩ = false ∧ w.frozen? ⟨g, 2, none⟩ = false ∧ w.frozen? ⟨g, 3, none⟩ = false ∧ w.frozen? ⟨g, 4, none⟩ = false :=
  ⟨h.frozen 0, h.frozen 1, h.frozen 2, h.frozen 3, h.frozen 4⟩
theorem below_five {B g : Nat} {a w : World} (h : Below B a w) (hg : B ≤ g) (u0 u1 u2 u3 u4 : Value) : Below B a (((((w.setCell ⟨g, 0, none⟩ u0).setCell ⟨g, 1, none⟩ u1).setCell ⟨g, 2, none⟩ u2).setCell ⟨g, 3, none⟩ u3).setCell ⟨g, 4, none⟩ u4) :=
  ((((h.setCell hg _).setCell hg _).setCell hg _).setCell hg _).setCell hg _
theorem Below.drewN {B : Nat} {a w : World} (h : Below B a w) (q : Nat) : Below B a (w.drewN q) := below_drewN h q
theorem upto_step (d : Nat → Nat) (k j : Nat) : (if j = k then d k else if j < k then d j else 0) = if j < k + 1 then d j else 0 := by
  by_cases h : j = k
  · subst h; rw [if_pos rfl, if_pos (by omega)]
  · rw [if_neg h]
    by_cases h2 : j < k
    · rw [if_pos h2, if_pos (by omega)]
    · rw [if_neg h2, if_neg (by omega)]
def UnderTo (A B k : Nat) : Prop := A < B ↔ A % Big.P k < B % Big.P k
end Go.Proofs.YticljmgcgjibpaaDoor

/-
  The walks of chanceryref17: less, big, times, told, sign: what they do to whole numbers. Conditions: numbers below 2^160.
-/
namespace Go.Proofs.YticljmgcgjibpaaDoor
open Go.RowKit

theorem Blk.putN {w : World} {g : Nat} {t : TypeId} {f : Nat → Nat} (h : Blk w g t (arr5 f)) (k x : Nat) (hk : k < 5) : Blk (w.setCell ⟨g, k, none⟩ (.int .u64 ((x : Nat) : Int))) g t (arr5 fun j => if j = k then x else f j) := by
  rw [← arr5_set f k x hk]
  exact h.put k _
theorem Blk.fits {w : World} {g : Nat} {t : TypeId} {f f' : Nat → Nat} (h : Blk w g t (arr5 f)) (he : ∀ k, k < 5 → f k = f' k) : Blk w g t (arr5 f') := by rw [← arr5_congr he]; exact h
theorem down_step (d : Nat → Nat) (k j : Nat) : (if j = k then d k else if k + 1 ≤ j then d j else 0) = if k ≤ j then d j else 0 := by
  by_cases h : j = k
  · subst h; rw [if_pos rfl, if_pos (by omega)]
  · rw [if_neg h]
    by_cases h2 : k ≤ j
    · rw [if_pos h2, if_pos (by omega)]
    · rw [if_neg h2, if_neg (by omega)]
end Go.Proofs.YticljmgcgjibpaaDoor

/-
  The walks of chanceryref17: big, told, sign: what they do to whole numbers. Conditions: numbers below 2^160.
-/
namespace Go.Proofs.YticljmgcgjibpaaDoor
open Go.RowKit

/-- A whole number as cells: its sign, its five digits. -/
def G6 (neg : Bool) (V : Nat) : Array Value := #[.bool neg, .int .u64 ((Big.dig V 0 : Nat) : Int), .int .u64 ((Big.dig V 1 : Nat) : Int), .int .u64 ((Big.dig V 2 : Nat) : Int), .int .u64 ((Big.dig V 3 : Nat) : Int), .int .u64 ((Big.dig V 4 : Nat) : Int)]
theorem dig_small (V : Nat) (h : V ≤ 9223372036854775808) : Big.dig V 0 = V % 4294967296 ∧ Big.dig V 1 = V / 4294967296 ∧ Big.dig V 2 = 0 ∧ Big.dig V 3 = 0 ∧ Big.dig V 4 = 0 := by
  refine ⟨?_, ?_, ?_, ?_, ?_⟩
  · show V / 1 % 4294967296 = _; omega
  · show V / 4294967296 % 4294967296 = _; omega
  · show V / 18446744073709551616 % 4294967296 = _; omega
  · show V / 79228162514264337593543950336 % 4294967296 = _; omega
  · show V / 340282366920938463463374607431768211456 % 4294967296 = _; omega
theorem G6_small (neg : Bool) (V : Nat) (h : V ≤ 9223372036854775808) : G6 neg V = #[.bool neg, .int .u64 ((V % 4294967296 : Nat) : Int), .int .u64 ((V / 4294967296 : Nat) : Int), .int .u64 0, .int .u64 0, .int .u64 0] := by
  obtain ⟨h0, h1, h2, h3, h4⟩ := dig_small V h
  unfold G6
  rw [h0, h1, h2, h3, h4]
  rfl
theorem below_six {B g : Nat} {a w : World} (h : Below B a w) (hg : B ≤ g) (u0 u1 u2 u3 u4 u5 : Value) : Below B a ((((((w.setCell ⟨g, 0, none⟩ u0).setCell ⟨g, 1, none⟩ u1).setCell ⟨g, 2, none⟩ u2).setCell ⟨g, 3, none⟩ u3).setCell ⟨g, 4, none⟩ u4).setCell ⟨g, 5, none⟩ u5) :=
  (((((h.setCell hg _).setCell hg _).setCell hg _).setCell hg _).setCell hg _).setCell hg _
/-- The number, if it is an int64. -/
def fit (x : Int) : Option Int := if -9223372036854775808 ≤ x ∧ x ≤ 9223372036854775807 then some x else none
def signed (neg : Bool) (V : Nat) : Int := if neg = true then -(V : Int) else (V : Int)
def fitV (o : Option Int) : Value := .tuple #[.int .i64 (o.getD 0), .bool o.isSome]
theorem dig_top {V : Nat} (hV : V < Big.P 5) : (Big.dig V 2 = 0 ∧ Big.dig V 3 = 0 ∧ Big.dig V 4 = 0) ↔ V < 18446744073709551616 := by
  have hV' : V < 1461501637330902918203684832716283019655932542976 := hV
  have e2 : Big.dig V 2 = V / 18446744073709551616 % 4294967296 := rfl
  have e3 : Big.dig V 3 = V / 79228162514264337593543950336 % 4294967296 := rfl
  have e4 : Big.dig V 4 = V / 340282366920938463463374607431768211456 % 4294967296 := rfl
  rw [e2, e3, e4]
  omega
theorem dig_both {V : Nat} (hV : V < 18446744073709551616) : Big.dig V 1 * 4294967296 + Big.dig V 0 = V := by
  have e0 : Big.dig V 0 = V / 1 % 4294967296 := rfl
  have e1 : Big.dig V 1 = V / 4294967296 % 4294967296 := rfl
  rw [e0, e1]
  omega
/-- The sign of a whole number. -/
def signOf (neg : Bool) (V : Nat) : Int := if V = 0 then 0 else if neg = true then -1 else 1
theorem info64 : (Tryd.prog.info? 79).isSome = true := by kernel_rfl
theorem cells64 : Tryd.prog.cellsOf 79 = 1 := by kernel_rfl
theorem part5 (w : World) (f : Nat → Nat) (k : Nat) (h : k < 5) : (part 79 (arr5 f) (k * 1)).run Tryd.prog w = .ok (.int .u64 ((f k : Nat) : Int)) w := by
  simp only [part, Sem.run_bind, isAgg, run_underlying Tryd.underlying79, Result.andThen_ok, Sem.run_pure]
  simp [arr5_at f k h]
theorem equal64 (w : World) (d a b : Nat) : (Op.equalIn (d + 1) 79 (.int .u64 (a : Int)) (.int .u64 (b : Int))).run Tryd.prog w = .ok (decide (a = b)) w := by
  rw [run_equalIn_int w d 79 .u64 .u64 _ _ Tryd.underlying79]
  congr 1
  rw [Bool.eq_iff_iff]
  simp
  omega
theorem items5 (w : World) (d : Nat) (f g : Nat → Nat) : ∀ is : List Nat, (∀ i ∈ is, i < 5) → (Op.eqItems (d + 1) 79 1 (arr5 f) (arr5 g) is).run Tryd.prog w = .ok (is.all fun k => decide (f k = g k)) w := by
  intro is
  induction is with
  | nil => intro _; rfl
  | cons i is ih =>
    intro h
    simp only [Op.eqItems, Sem.run_bind, part5 w f i (h i (by simp)), part5 w g i (h i (by simp)), equal64, Result.andThen_ok, List.all_cons]
    cases decide (f i = g i)
    · rfl
    · exact ih fun j hj => h j (by simp [hj])
theorem dig_none {V : Nat} (hV : V < Big.P 5) : (decide (Big.dig V 0 = 0) && (decide (Big.dig V 1 = 0) && (decide (Big.dig V 2 = 0) && (decide (Big.dig V 3 = 0) && decide (Big.dig V 4 = 0))))) = decide (V = 0) := by
  rw [Bool.eq_iff_iff]
  simp only [Bool.and_eq_true, decide_eq_true_eq]
  constructor
  · rintro ⟨h0, h1, h2, h3, h4⟩
    refine Big.dig_ext hV (Big.P_pos 5) fun i hi => ?_
    rw [Big.dig_zero]
    match i, hi with
    | 0, _ => exact h0
    | 1, _ => exact h1
    | 2, _ => exact h2
    | 3, _ => exact h3
    | 4, _ => exact h4
  · rintro rfl
    simp [Big.dig_zero]
end Go.Proofs.YticljmgcgjibpaaDoor

/-
  The walk of chanceryref17.times: the product. Conditions: numbers below 2^160.
-/
namespace Go.Proofs.YticljmgcgjibpaaDoor
open Go.RowKit

theorem G6_at (neg : Bool) (V k : Nat) (h : k < 5) : (G6 neg V)[1 + k]? = some (.int .u64 ((Big.dig V k : Nat) : Int)) := by
  match k, h with
  | 0, _ => rfl
  | 1, _ => rfl
  | 2, _ => rfl
  | 3, _ => rfl
  | 4, _ => rfl
/-- Within a round: what the places hold. -/
def mid (A B i j q : Nat) : Nat := if q < i + j then Big.dig (Big.T A B i j) q else Big.dig (Big.O A B i) q
theorem mid_step (A B i j q : Nat) : (if q = i + j then Big.dig (Big.T A B i (j + 1)) (i + j) else mid A B i j q) = mid A B i (j + 1) q := by
  unfold mid
  by_cases h : q = i + j
  · subst h
    rw [if_pos rfl, if_pos (by omega)]
  · rw [if_neg h]
    by_cases h2 : q < i + j
    · rw [if_pos h2, if_pos (by omega), Big.mul_low A B i j q h2]
    · rw [if_neg h2, if_neg (by omega)]
theorem mid_start (A B i q : Nat) : Big.dig (Big.O A B i) q = mid A B i 0 q := by
  unfold mid
  rw [Big.T_zero]
  split <;> rfl
theorem mid_end (A B i j q : Nat) (h : i + j = 5) (hq : q < 5) : mid A B i j q = Big.dig (Big.O A B (i + 1)) q := by
  unfold mid
  rw [if_pos (by omega)]
  obtain rfl : j = 5 - i := by omega
  exact Big.T_end A B i q (by omega) hq
theorem G6_zero : G6 false 0 = #[.bool false, .int .u64 0, .int .u64 0, .int .u64 0, .int .u64 0, .int .u64 0] := by rw [G6_small _ _ (by omega)]; rfl

end Go.Proofs.YticljmgcgjibpaaDoor
