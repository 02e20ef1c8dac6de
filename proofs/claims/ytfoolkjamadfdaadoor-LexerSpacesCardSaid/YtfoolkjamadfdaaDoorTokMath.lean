/-
  Plain: the tokens of a text from a place on; how many bytes a token takes. Conditions: none. No program is named here.
-/
import Derived.Test.YtfoolkjamadfdaaDoorLexMath
namespace Go.Proofs.YtfoolkjamadfdaaDoor.Lex

theorem quote_len : ∀ (f : Nat) (l : List UInt8), l.length ≤ f → ∀ s x, quote l = some (s, x) → x.length < l.length ∧ s.length ≤ l.length := by
  intro f
  induction f with
  | zero =>
    intro l h s x hq
    obtain rfl : l = [] := List.eq_nil_of_length_eq_zero (by omega)
    cases hq
  | succ f ih =>
    intro l h s x hq
    match l, h with
    | [], _ => cases hq
    | [c], _ =>
      simp only [quote] at hq
      split at hq
      · injection hq with hq
        injection hq with h1 h2
        subst h1 h2
        simp
      · cases hq
    | c :: d :: l, h =>
      simp only [quote] at hq
      split at hq
      · split at hq
        · cases hl : quote l with
          | none => rw [hl] at hq; cases hq
          | some p =>
            rw [hl] at hq
            simp only [Option.map_some, Option.some.injEq, Prod.mk.injEq] at hq
            have := ih l (by simp at h; omega) p.1 p.2 hl
            rw [← hq.1, ← hq.2]
            simp only [List.length_cons]
            omega
        · injection hq with hq
          injection hq with h1 h2
          subst h1 h2
          simp
      · cases hl : quote (d :: l) with
        | none => rw [hl] at hq; cases hq
        | some p =>
          rw [hl] at hq
          simp only [Option.map_some, Option.some.injEq, Prod.mk.injEq] at hq
          have := ih (d :: l) (by simp at h ⊢; omega) p.1 p.2 hl
          rw [← hq.1, ← hq.2]
          simp only [List.length_cons] at this ⊢
          omega
theorem pairs_len : ∀ (f : Nat) (l : List UInt8), l.length ≤ f → ∀ s x, pairs l = some (s, x) → x.length < l.length ∧ s.length ≤ l.length := by
  intro f
  induction f with
  | zero =>
    intro l h s x hq
    obtain rfl : l = [] := List.eq_nil_of_length_eq_zero (by omega)
    cases hq
  | succ f ih =>
    intro l h s x hq
    match l, h with
    | [], _ => cases hq
    | [c], _ =>
      simp only [pairs] at hq
      split at hq
      · injection hq with hq
        injection hq with h1 h2
        subst h1 h2
        simp
      · cases hq
    | c :: d :: l, h =>
      simp only [pairs] at hq
      split at hq
      · injection hq with hq
        injection hq with h1 h2
        subst h1 h2
        simp
      · split at hq
        · cases hl : pairs l with
          | none => rw [hl] at hq; cases hq
          | some p =>
            rw [hl] at hq
            simp only [Option.map_some, Option.some.injEq, Prod.mk.injEq] at hq
            have := ih l (by simp at h; omega) p.1 p.2 hl
            rw [← hq.1, ← hq.2]
            simp only [List.length_cons]
            omega
        · cases hq
theorem span_pos {p : UInt8 → Bool} {c : UInt8} {l : List UInt8} (h : p c = true) : 1 ≤ span p (c :: l) := by
  simp only [span]
  rw [if_pos h]
  omega
/-- A token takes a byte or more, and no more than there are. -/
theorem token_len {l : List UInt8} {k : UInt8} {s : List UInt8} {n : Nat} (h : token l = some (k, s, n)) : 1 ≤ n ∧ n ≤ l.length ∧ s.length ≤ l.length := by
  cases l with
  | nil => cases h
  | cons c r =>
    unfold token at h
    simp only at h
    split at h
    · rename_i hx
      unfold pairsT at h
      cases hp : pairs ((c :: r).drop 2) with
      | none => rw [hp] at h; cases h
      | some p =>
        rw [hp] at h
        obtain ⟨s', x⟩ := p
        have hl := pairs_len _ _ (Nat.le_refl _) s' x hp
        simp only [List.length_drop] at hl
        simp only at h
        split at h
        · injection h with h
          simp only [Prod.mk.injEq] at h
          obtain ⟨_, h1, h2⟩ := h
          subst h1 h2
          omega
        · cases h
    · split at h
      · rename_i hx
        unfold wordT at h
        split at h
        · injection h with h
          simp only [Prod.mk.injEq] at h
          obtain ⟨_, h1, h2⟩ := h
          subst h1 h2
          have := span_le inWord (c :: r)
          have h3 : 1 ≤ span inWord (c :: r) := span_pos (by unfold inWord; rw [hx]; rfl)
          refine ⟨h3, this, ?_⟩
          rw [List.length_take]
          omega
        · cases h
      · split at h
        · rename_i hx
          have h3 : 1 ≤ span digit (c :: r) := span_pos hx
          have h4 := span_le digit (c :: r)
          have h5 := span_le digit ((c :: r).drop (span digit (c :: r) + 1))
          rw [List.length_drop] at h5
          unfold numberT at h
          split at h
          · cases h
          · split at h
            · rename_i hy
              split at h
              · cases h
              · injection h with h
                simp only [Prod.mk.injEq] at h
                obtain ⟨_, h1, h2⟩ := h
                subst h1 h2
                refine ⟨by omega, by omega, ?_⟩
                rw [List.length_take]
                omega
            · injection h with h
              simp only [Prod.mk.injEq] at h
              obtain ⟨_, h1, h2⟩ := h
              subst h1 h2
              refine ⟨h3, h4, ?_⟩
              rw [List.length_take]
              omega
        · split at h
          · unfold quoteT at h
            cases hp : quote ((c :: r).drop 1) with
            | none => rw [hp] at h; cases h
            | some p =>
              rw [hp] at h
              obtain ⟨s', x⟩ := p
              have hl := quote_len _ _ (Nat.le_refl _) s' x hp
              simp only [List.length_drop] at hl
              simp only at h
              split at h
              · injection h with h
                simp only [Prod.mk.injEq] at h
                obtain ⟨_, h1, h2⟩ := h
                subst h1 h2
                omega
              · cases h
          · unfold signT at h
            simp only at h
            split at h
            · rename_i hx
              injection h with h
              simp only [Prod.mk.injEq] at h
              obtain ⟨_, h1, h2⟩ := h
              subst h1 h2
              have : 1 ≤ r.length := by
                cases r with
                | nil => rcases hx with ⟨_, h | h⟩ | ⟨_, h⟩ <;> simp [isAt] at h
                | cons d r => simp
              refine ⟨by omega, by simp; omega, ?_⟩
              rw [List.length_take]
              omega
            · split at h
              · injection h with h
                simp only [Prod.mk.injEq] at h
                obtain ⟨_, h1, h2⟩ := h
                subst h1 h2
                refine ⟨by omega, by simp, ?_⟩
                rw [List.length_take]
                omega
              · cases h
/-- The tokens from a place on that no blank and no note holds. -/
def head (l : List UInt8) (f k : Nat) : Except Nat (List Tok) :=
  if l.length ≤ k then .ok [] else
  match token (l.drop k) with
  | none => .error k
  | some (kd, s, n) =>
    match toks f (k + n) (l.drop (k + n)) with
    | .error e => .error e
    | .ok ts => .ok ((kd, s, k) :: ts)
theorem toks_head (l : List UInt8) (f j : Nat) (hj : j ≤ l.length) : toks (f + 1) j (l.drop j) = head l f (skipAt l j) := by
  obtain ⟨h1, h2, h3⟩ := skipAt_le l j hj
  unfold toks head
  rw [h3]
  by_cases hk : l.length ≤ skipAt l j
  · rw [if_pos hk, List.drop_of_length_le hk]
  · rw [if_neg hk]
    cases hd : l.drop (skipAt l j) with
    | nil =>
      have := congrArg List.length hd
      rw [List.length_drop] at this
      simp at this
      omega
    | cons c r =>
      have hlen : (c :: r).length = l.length - skipAt l j := by rw [← hd, List.length_drop]
      have e : j + ((l.drop j).length - (c :: r).length) = skipAt l j := by rw [hlen, List.length_drop]; omega
      simp only [e]
      cases ht : token (c :: r) with
      | none => rfl
      | some t =>
        obtain ⟨kd, s, n⟩ := t
        simp only
        rw [← hd, List.drop_drop]
        cases toks f (skipAt l j + n) (l.drop (skipAt l j + n)) <;> rfl
/-- Tokens ahead of what follows. -/
def pre (acc : List Tok) : Except Nat (List Tok) → Except Nat (List Tok)
  | .error e => .error e
  | .ok ts => .ok (acc ++ ts)
theorem pre_nil (x : Except Nat (List Tok)) : pre [] x = x := by cases x <;> rfl
theorem head_next {l : List UInt8} {f k : Nat} {kd : UInt8} {s : List UInt8} {n : Nat} {acc : List Tok} (hk : ¬ l.length ≤ k) (ht : token (l.drop k) = some (kd, s, n)) (hf : 1 ≤ f) : pre acc (head l f k) = pre (acc ++ [(kd, s, k)]) (head l (f - 1) (skipAt l (k + n))) := by
  have hl := token_len ht
  rw [List.length_drop] at hl
  have e : toks f (k + n) (l.drop (k + n)) = head l (f - 1) (skipAt l (k + n)) := by
    obtain ⟨f', rfl⟩ : ∃ f', f = f' + 1 := ⟨f - 1, by omega⟩
    rw [Nat.add_sub_cancel]
    exact toks_head l f' (k + n) (by omega)
  have e1 : head l f k = match head l (f - 1) (skipAt l (k + n)) with
      | .error e => .error e
      | .ok ts => .ok ((kd, s, k) :: ts) := by
    rw [← e]
    conv => lhs; unfold head
    rw [if_neg hk, ht]
  rw [e1]
  cases head l (f - 1) (skipAt l (k + n)) with
  | error e => rfl
  | ok ts => simp [pre]
theorem head_bad {l : List UInt8} {f k : Nat} {acc : List Tok} (hk : ¬ l.length ≤ k) (ht : token (l.drop k) = none) : pre acc (head l f k) = .error k := by
  unfold head
  rw [if_neg hk, ht]
  rfl
theorem head_end {l : List UInt8} {f k : Nat} {acc : List Tok} (hk : l.length ≤ k) : pre acc (head l f k) = .ok acc := by
  unfold head
  rw [if_pos hk]
  simp [pre]
/-- What is told of a text: tokens, the error, its place. -/
def told (l : List UInt8) : List Tok × Nat × Nat :=
  match tokens l with
  | .error e => ([], e.1, e.2)
  | .ok ts => (ts, 0, 0)
theorem told_long {l : List UInt8} (h : 4096 < l.length) : told l = ([], 3, 0) := by
  unfold told tokens
  rw [if_pos h]
theorem told_error {l : List UInt8} {e : Nat} (h : ¬ 4096 < l.length) (ht : toks (l.length + 1) 0 l = .error e) : told l = ([], 290, e) := by
  unfold told tokens
  rw [if_neg h, ht]
theorem told_ok {l : List UInt8} {ts : List Tok} (h : ¬ 4096 < l.length) (ht : toks (l.length + 1) 0 l = .ok ts) : told l = (ts, 0, 0) := by
  unfold told tokens
  rw [if_neg h, ht]
end Go.Proofs.YtfoolkjamadfdaaDoor.Lex
