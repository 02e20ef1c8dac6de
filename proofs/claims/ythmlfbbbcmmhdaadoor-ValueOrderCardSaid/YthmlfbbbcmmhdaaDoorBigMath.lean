/-
  Plain: whole numbers below 2^160 as five digits of 32 bits. Conditions: none. No program is named here.
-/
namespace Go.Proofs.YthmlfbbbcmmhdaaDoor.Big

def M : Nat := 4294967296
def P (i : Nat) : Nat := M ^ i
theorem M_pos : 0 < M := by decide
theorem P_pos (i : Nat) : 0 < P i := Nat.pow_pos M_pos
theorem P_succ (i : Nat) : P (i + 1) = P i * M := by unfold P; rw [Nat.pow_succ]
theorem P_zero : P 0 = 1 := rfl
/-- A digit. -/
def dig (V i : Nat) : Nat := V / P i % M
theorem dig_lt (V i : Nat) : dig V i < M := Nat.mod_lt _ M_pos
theorem mod_succ (V i : Nat) : V % P (i + 1) = P i * dig V i + V % P i := by
  unfold dig
  rw [P_succ, Nat.mod_mul, Nat.add_comm]
/-- The carry into a place of a sum. -/
def carry (A B i : Nat) : Nat := (A % P i + B % P i) / P i
theorem carry_zero (A B : Nat) : carry A B 0 = 0 := by unfold carry; rw [P_zero, Nat.mod_one, Nat.mod_one]
theorem add_div (A B i : Nat) : (A + B) / P i = A / P i + B / P i + carry A B i := by
  unfold carry
  have h1 := Nat.div_add_mod A (P i)
  have h2 := Nat.div_add_mod B (P i)
  have e : A + B = (A % P i + B % P i) + P i * (A / P i + B / P i) := by rw [Nat.mul_add]; omega
  rw [e, Nat.add_mul_div_left _ _ (P_pos i)]
  omega
theorem dig_add (A B i : Nat) : (dig A i + dig B i + carry A B i) % M = dig (A + B) i := by
  unfold dig
  rw [add_div, Nat.add_mod, Nat.add_mod (A / P i % M), Nat.mod_mod, Nat.mod_mod, ← Nat.add_mod (A / P i), ← Nat.add_mod]
theorem carry_succ (A B i : Nat) : (dig A i + dig B i + carry A B i) / M = carry A B (i + 1) := by
  unfold carry
  rw [mod_succ A, mod_succ B, P_succ, ← Nat.div_div_eq_div_mul]
  have e : P i * dig A i + A % P i + (P i * dig B i + B % P i) = (A % P i + B % P i) + P i * (dig A i + dig B i) := by rw [Nat.mul_add]; omega
  rw [e, Nat.add_mul_div_left _ _ (P_pos i), Nat.add_comm]
theorem carry_le (A B i : Nat) : carry A B i ≤ 1 := by
  unfold carry
  have h1 := Nat.mod_lt A (P_pos i)
  have h2 := Nat.mod_lt B (P_pos i)
  have : (A % P i + B % P i) / P i < 2 := (Nat.div_lt_iff_lt_mul (P_pos i)).2 (by omega)
  omega
/-- A number's five digits say the number. -/
theorem dig_ext {V W : Nat} (hV : V < P 5) (hW : W < P 5) (h : ∀ i, i < 5 → dig V i = dig W i) : V = W := by
  have key : ∀ i, i ≤ 5 → V % P i = W % P i := by
    intro i
    induction i with
    | zero => intro _; rw [P_zero, Nat.mod_one, Nat.mod_one]
    | succ i ih => intro hi; rw [mod_succ, mod_succ, ih (by omega), h i (by omega)]
  have := key 5 (Nat.le_refl _)
  rwa [Nat.mod_eq_of_lt hV, Nat.mod_eq_of_lt hW] at this
/-- Digits that say a number are its digits. -/
theorem dig_of {V i d lo : Nat} (hlo : lo < P i) (h : V % P (i + 1) = P i * d + lo) : dig V i = d ∧ V % P i = lo := by
  rw [mod_succ] at h
  have hm := Nat.mod_lt V (P_pos i)
  have e1 : (P i * dig V i + V % P i) / P i = dig V i := by rw [Nat.add_comm, Nat.add_mul_div_left _ _ (P_pos i), Nat.div_eq_of_lt hm, Nat.zero_add]
  have e2 : (P i * d + lo) / P i = d := by rw [Nat.add_comm, Nat.add_mul_div_left _ _ (P_pos i), Nat.div_eq_of_lt hlo, Nat.zero_add]
  have : dig V i = d := by rw [← e1, h, e2]
  refine ⟨this, ?_⟩
  rw [this] at h
  omega
/-- The borrow into a place of a difference. -/
def borrow (A B i : Nat) : Nat := if A % P i < B % P i then 1 else 0
theorem borrow_zero (A B : Nat) : borrow A B 0 = 0 := by unfold borrow; rw [P_zero, Nat.mod_one, Nat.mod_one]; rfl
theorem borrow_le (A B i : Nat) : borrow A B i ≤ 1 := by unfold borrow; split <;> omega
theorem lex_lt {K x y a b : Nat} (ha : a < K) (hb : b < K) : K * x + a < K * y + b ↔ x < y ∨ (x = y ∧ a < b) := by
  constructor
  · intro h
    rcases Nat.lt_trichotomy x y with h1 | h1 | h1
    · exact .inl h1
    · subst h1; exact .inr ⟨rfl, by omega⟩
    · have : K * (y + 1) ≤ K * x := Nat.mul_le_mul_left K h1
      rw [Nat.mul_add, Nat.mul_one] at this
      omega
  · rintro (h | ⟨rfl, h⟩)
    · have : K * (x + 1) ≤ K * y := Nat.mul_le_mul_left K h
      rw [Nat.mul_add, Nat.mul_one] at this
      omega
    · omega
theorem borrow_succ (A B i : Nat) : (dig A i + M - dig B i - borrow A B i) / M = 1 - borrow A B (i + 1) := by
  have h1 := dig_lt A i
  have h2 := dig_lt B i
  have h3 := lex_lt (x := dig A i) (y := dig B i) (Nat.mod_lt A (P_pos i)) (Nat.mod_lt B (P_pos i))
  rw [← mod_succ, ← mod_succ] at h3
  have hM : M = 4294967296 := rfl
  rw [hM] at h1 h2 ⊢
  unfold borrow
  by_cases hb : A % P (i + 1) < B % P (i + 1)
  · rw [if_pos hb]
    rcases h3.1 hb with h | ⟨h, h'⟩
    · split <;> omega
    · rw [if_pos h']; omega
  · rw [if_neg hb]
    have h4 : ¬ (dig A i < dig B i ∨ (dig A i = dig B i ∧ A % P i < B % P i)) := fun h => hb (h3.2 h)
    split <;> omega
theorem dig_sub (A B i : Nat) (hAB : B ≤ A) : (dig A i + M - dig B i - borrow A B i) % M = dig (A - B) i := by
  have h1 := dig_lt A i
  have h2 := dig_lt B i
  have h3 := borrow_le A B i
  have ha := dig_add B (A - B) i
  rw [show B + (A - B) = A by omega] at ha
  have hc : carry B (A - B) i = borrow A B i := by
    unfold borrow
    have hc1 := carry_le B (A - B) i
    have e : A % P i = (B % P i + (A - B) % P i) % P i := by rw [← Nat.add_mod, show B + (A - B) = A by omega]
    have m1 := Nat.mod_lt B (P_pos i)
    have m2 := Nat.mod_lt (A - B) (P_pos i)
    have hp := P_pos i
    unfold carry
    obtain ⟨x, hx⟩ : ∃ x, x = B % P i := ⟨_, rfl⟩
    obtain ⟨y, hy⟩ : ∃ y, y = (A - B) % P i := ⟨_, rfl⟩
    obtain ⟨z, hz⟩ : ∃ z, z = A % P i := ⟨_, rfl⟩
    obtain ⟨K, hK⟩ : ∃ K, K = P i := ⟨_, rfl⟩
    rw [← hx, ← hy, ← hz] at e
    rw [← hx] at m1
    rw [← hy] at m2
    rw [← hx, ← hy, ← hz]
    rw [← hK] at e m1 m2 hp ⊢
    clear hx hy hz hK hc1
    by_cases h : x + y < K
    · rw [Nat.mod_eq_of_lt h] at e
      rw [Nat.div_eq_of_lt h, if_neg (by omega)]
    · have e2 : (x + y) % K = x + y - K := by rw [Nat.mod_eq_sub_mod (by omega), Nat.mod_eq_of_lt (by omega)]
      have e3 : (x + y) / K = 1 := by
        apply Nat.div_eq_of_lt_le <;> omega
      rw [e3, if_pos (by omega)]
  rw [hc] at ha
  have h4 := dig_lt (A - B) i
  have hM : M = 4294967296 := rfl
  rw [hM] at h1 h2 h4 ha ⊢
  obtain ⟨x, hx⟩ : ∃ x, x = dig A i := ⟨_, rfl⟩
  obtain ⟨y, hy⟩ : ∃ y, y = dig B i := ⟨_, rfl⟩
  obtain ⟨z, hz⟩ : ∃ z, z = dig (A - B) i := ⟨_, rfl⟩
  obtain ⟨b, hb⟩ : ∃ b, b = borrow A B i := ⟨_, rfl⟩
  rw [← hx] at h1 ha ⊢
  rw [← hy] at h2 ha ⊢
  rw [← hz] at h4 ha ⊢
  rw [← hb] at h3 ha ⊢
  clear hx hy hz hb hc
  omega
/-- Comparing from the top. -/
theorem lt_step (A B i : Nat) : A % P (i + 1) < B % P (i + 1) ↔ dig A i < dig B i ∨ (dig A i = dig B i ∧ A % P i < B % P i) := by
  have h3 := lex_lt (x := dig A i) (y := dig B i) (Nat.mod_lt A (P_pos i)) (Nat.mod_lt B (P_pos i))
  rw [← mod_succ, ← mod_succ] at h3
  exact h3
/-- Dividing from the top: the rest so far is (A / P i) % d. -/
theorem rest_step (A d i : Nat) : (A / P (i + 1) % d * M + dig A i) % d = A / P i % d := by
  have e : A / P i = A / P (i + 1) * M + dig A i := by
    unfold dig
    rw [P_succ, ← Nat.div_div_eq_div_mul, Nat.mul_comm]
    exact (Nat.div_add_mod _ _).symm
  rw [e, Nat.add_mod, Nat.mul_mod, Nat.mod_mod, ← Nat.mul_mod, ← Nat.add_mod]
theorem quot_plain (a x d : Nat) (hd : 0 < d) (hx : x < M) : (a % d * M + x) / d = (a * M + x) / d % M := by
  have h1 := Nat.div_add_mod a d
  obtain ⟨r, hr⟩ : ∃ r, r = a % d := ⟨_, rfl⟩
  obtain ⟨q, hq⟩ : ∃ q, q = a / d := ⟨_, rfl⟩
  have hrd : r < d := by rw [hr]; exact Nat.mod_lt _ hd
  rw [← hr, ← hq] at h1
  rw [← hr]
  have e : a * M + x = d * (q * M) + (r * M + x) := by rw [← h1, Nat.add_mul, Nat.mul_assoc]; omega
  rw [e, Nat.mul_add_div hd, Nat.add_comm (q * M), Nat.add_mul_mod_self_right]
  refine (Nat.mod_eq_of_lt ?_).symm
  rw [Nat.div_lt_iff_lt_mul hd]
  have : (r + 1) * M ≤ d * M := Nat.mul_le_mul_right M hrd
  rw [Nat.add_mul, Nat.one_mul] at this
  rw [Nat.mul_comm M d]
  omega
theorem quot_step (A d i : Nat) (hd : 0 < d) : (A / P (i + 1) % d * M + dig A i) / d = dig (A / d) i := by
  have e : A / P i = A / P (i + 1) * M + dig A i := by
    unfold dig
    rw [P_succ, ← Nat.div_div_eq_div_mul, Nat.mul_comm]
    exact (Nat.div_add_mod _ _).symm
  rw [quot_plain _ _ _ hd (dig_lt A i), ← e]
  unfold dig
  rw [Nat.div_div_eq_div_mul, Nat.div_div_eq_div_mul, Nat.mul_comm d]
end Go.Proofs.YthmlfbbbcmmhdaaDoor.Big
