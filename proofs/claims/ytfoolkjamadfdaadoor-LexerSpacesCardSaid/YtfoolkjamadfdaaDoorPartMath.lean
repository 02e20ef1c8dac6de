/-
  Plain: two texts joined by a line break are cut as each by itself. Conditions: none. No program is named here.
-/
import Derived.Test.YtfoolkjamadfdaaDoorTokMath
namespace Go.Proofs.YtfoolkjamadfdaaDoor.Lex

/-- A byte that goes on with no token. -/
def Far (y : UInt8) : Prop := y.toNat = 9 ∨ y.toNat = 10
theorem span_far {p : UInt8 → Bool} {y : UInt8} (hy : p y = false) (B : List UInt8) : ∀ l, span p (l ++ y :: B) = span p l := by
  intro l
  induction l with
  | nil => simp only [List.nil_append, span]; rw [if_neg (by simp [hy])]
  | cons c l ih => simp only [List.cons_append, span]; rw [ih]
theorem isAt_far {y c : UInt8} (hy : y ≠ c) (B : List UInt8) : ∀ (l : List UInt8) (i : Nat), i ≤ l.length → isAt (l ++ y :: B) i c = isAt l i c := by
  intro l i hi
  unfold isAt
  rcases Nat.lt_or_ge i l.length with h | h
  · rw [List.getElem?_append_left h]
  · obtain rfl : i = l.length := by omega
    rw [List.getElem?_append_right (Nat.le_refl _), Nat.sub_self, List.getElem?_eq_none (Nat.le_refl _)]
    simp [hy]
theorem far_ne {y : UInt8} (hy : Far y) {c : UInt8} (h9 : c.toNat ≠ 9) (h10 : c.toNat ≠ 10) : y ≠ c := by
  rintro rfl
  rcases hy with h | h
  · exact h9 h
  · exact h10 h
theorem far_word {y : UInt8} (hy : Far y) : inWord y = false := by rcases hy with h | h <;> simp [inWord, letter, digit, h]
theorem far_digit {y : UInt8} (hy : Far y) : digit y = false := by rcases hy with h | h <;> simp [digit, h]
theorem quote_app {y : UInt8} (hy : Far y) (B : List UInt8) : ∀ (f : Nat) (l : List UInt8), l.length ≤ f → ∀ s x, quote l = some (s, x) → quote (l ++ y :: B) = some (s, x ++ y :: B) := by
  have hy39 : ¬ y.toNat = 39 := by rcases hy with h | h <;> omega
  intro f
  induction f with
  | zero =>
    intro l h s x hq
    obtain rfl : l = [] := List.eq_nil_of_length_eq_zero (by omega)
    cases hq
  | succ f ih =>
    intro l h s x hq
    match l, h with
    | [], _ => cases hq
    | [c], _ =>
      simp only [quote] at hq
      split at hq
      · rename_i hc
        injection hq with hq
        injection hq with h1 h2
        subst h1 h2
        simp only [List.cons_append, List.nil_append, quote]
        rw [if_pos hc, if_neg hy39]
      · cases hq
    | c :: d :: l, h =>
      simp only [quote] at hq
      simp only [List.cons_append, quote]
      split at hq
      · rename_i hc
        rw [if_pos hc]
        split at hq
        · rename_i hd
          rw [if_pos hd]
          cases hl : quote l with
          | none => rw [hl] at hq; cases hq
          | some p =>
            rw [hl] at hq
            simp only [Option.map_some, Option.some.injEq, Prod.mk.injEq] at hq
            rw [ih l (by simp at h; omega) p.1 p.2 hl]
            simp only [Option.map_some]
            rw [hq.1, hq.2]
        · rename_i hd
          rw [if_neg hd]
          injection hq with hq
          injection hq with h1 h2
          subst h1 h2
          rfl
      · rename_i hc
        rw [if_neg hc]
        cases hl : quote (d :: l) with
        | none => rw [hl] at hq; cases hq
        | some p =>
          rw [hl] at hq
          simp only [Option.map_some, Option.some.injEq, Prod.mk.injEq] at hq
          have := ih (d :: l) (by simp at h ⊢; omega) p.1 p.2 hl
          rw [List.cons_append] at this
          rw [this]
          simp only [Option.map_some]
          rw [hq.1, hq.2]
theorem pairs_app {y : UInt8} (B : List UInt8) : ∀ (f : Nat) (l : List UInt8), l.length ≤ f → ∀ s x, pairs l = some (s, x) → pairs (l ++ y :: B) = some (s, x ++ y :: B) := by
  intro f
  induction f with
  | zero =>
    intro l h s x hq
    obtain rfl : l = [] := List.eq_nil_of_length_eq_zero (by omega)
    cases hq
  | succ f ih =>
    intro l h s x hq
    match l, h with
    | [], _ => cases hq
    | [c], _ =>
      simp only [pairs] at hq
      split at hq
      · rename_i hc
        injection hq with hq
        injection hq with h1 h2
        subst h1 h2
        simp only [List.cons_append, List.nil_append, pairs]
        rw [if_pos hc]
      · cases hq
    | c :: d :: l, h =>
      simp only [pairs] at hq
      simp only [List.cons_append, pairs]
      split at hq
      · rename_i hc
        rw [if_pos hc]
        injection hq with hq
        injection hq with h1 h2
        subst h1 h2
        rfl
      · rename_i hc
        rw [if_neg hc]
        split at hq
        · rename_i hx
          rw [if_pos hx]
          cases hl : pairs l with
          | none => rw [hl] at hq; cases hq
          | some p =>
            rw [hl] at hq
            simp only [Option.map_some, Option.some.injEq, Prod.mk.injEq] at hq
            rw [ih l (by simp at h; omega) p.1 p.2 hl]
            simp only [Option.map_some]
            rw [hq.1, hq.2]
        · cases hq
theorem take_far {l X : List UInt8} {n : Nat} (h : n ≤ l.length) : (l ++ X).take n = l.take n := by
  rw [List.take_append_of_le_length h]
theorem drop_far {l X : List UInt8} {n : Nat} (h : n ≤ l.length) : (l ++ X).drop n = l.drop n ++ X := by
  rw [List.drop_append_of_le_length h]
/-- A token is the same whatever follows a byte that goes on with none. -/
theorem token_app {y : UInt8} (hy : Far y) (B : List UInt8) {l : List UInt8} {t : UInt8 × List UInt8 × Nat} (h : token l = some t) : token (l ++ y :: B) = some t := by
  cases l with
  | nil => cases h
  | cons c r =>
    have e39 : isAt (r ++ y :: B) 0 39 = isAt r 0 39 := isAt_far (far_ne hy (by decide) (by decide)) B r 0 (by omega)
    have e61 : isAt (r ++ y :: B) 0 61 = isAt r 0 61 := isAt_far (far_ne hy (by decide) (by decide)) B r 0 (by omega)
    have e62 : isAt (r ++ y :: B) 0 62 = isAt r 0 62 := isAt_far (far_ne hy (by decide) (by decide)) B r 0 (by omega)
    unfold token at h ⊢
    simp only [List.cons_append] at h ⊢
    rw [e39]
    split at h
    · rename_i hx
      rw [if_pos hx]
      unfold pairsT at h ⊢
      have hr : 1 ≤ r.length := by
        cases r with
        | nil => simp [isAt] at hx
        | cons d r => simp
      cases hp : pairs ((c :: r).drop 2) with
      | none => rw [hp] at h; cases h
      | some p =>
        obtain ⟨s', x⟩ := p
        rw [hp] at h
        have e : (c :: (r ++ y :: B)).drop 2 = (c :: r).drop 2 ++ y :: B := by
          rw [← List.cons_append, drop_far (by simp; omega)]
        have hl := pairs_len _ _ (Nat.le_refl _) s' x hp
        rw [e, pairs_app B _ _ (Nat.le_refl _) s' x hp]
        simp only at h ⊢
        rw [List.length_drop] at hl
        rw [show (c :: (r ++ y :: B)).length - (x ++ y :: B).length = (c :: r).length - x.length by simp only [List.length_cons, List.length_append]; omega]
        exact h
    · rename_i hx
      rw [if_neg hx]
      split at h
      · rename_i hl
        rw [if_pos hl]
        unfold wordT at h ⊢
        have e : span inWord (c :: (r ++ y :: B)) = span inWord (c :: r) := by rw [← List.cons_append]; exact span_far (far_word hy) B _
        have e2 := span_le inWord (c :: r)
        rw [e, ← List.cons_append, take_far e2]
        exact h
      · rename_i hl
        rw [if_neg hl]
        split at h
        · rename_i hd
          rw [if_pos hd]
          unfold numberT at h ⊢
          rw [← List.cons_append, span_far (far_digit hy) B (c :: r)]
          have e2 := span_le digit (c :: r)
          have e48 : isAt (c :: r ++ y :: B) 0 48 = isAt (c :: r) 0 48 := rfl
          have e46 : isAt (c :: r ++ y :: B) (span digit (c :: r)) 46 = isAt (c :: r) (span digit (c :: r)) 46 := isAt_far (far_ne hy (by decide) (by decide)) B _ _ e2
          rw [e48, e46]
          split at h
          · cases h
          · rename_i h0
            rw [if_neg h0]
            by_cases hdot : isAt (c :: r) (span digit (c :: r)) 46 = true
            · have hlt : span digit (c :: r) + 1 ≤ (c :: r).length := by
                unfold isAt at hdot
                rw [decide_eq_true_eq] at hdot
                exact (List.getElem?_eq_some_iff.1 hdot).1
              rw [drop_far hlt, span_far (far_digit hy) B]
              have e3 := span_le digit ((c :: r).drop (span digit (c :: r) + 1))
              rw [List.length_drop] at e3
              split at h
              · rename_i h1
                rw [if_pos h1]
                split at h
                · cases h
                · rename_i h2
                  rw [if_neg h2, take_far (by omega)]
                  exact h
              · rename_i h1
                rw [if_neg h1, take_far e2]
                exact h
            · rw [if_neg (fun hh => hdot hh.1)] at h ⊢
              rw [take_far e2]
              exact h
        · rename_i hd
          rw [if_neg hd]
          split at h
          · rename_i hq
            rw [if_pos hq]
            unfold quoteT at h ⊢
            simp only [List.drop_succ_cons, List.drop_zero] at h ⊢
            cases hp : quote r with
            | none => rw [hp] at h; cases h
            | some p =>
              obtain ⟨s', x⟩ := p
              rw [hp] at h
              have hl := quote_len _ _ (Nat.le_refl _) s' x hp
              rw [quote_app hy B _ _ (Nat.le_refl _) s' x hp]
              simp only at h ⊢
              rw [show (c :: (r ++ y :: B)).length - (x ++ y :: B).length = (c :: r).length - x.length by simp only [List.length_cons, List.length_append]; omega]
              exact h
          · rename_i hq
            rw [if_neg hq]
            unfold signT at h ⊢
            simp only at h ⊢
            rw [e61, e62]
            split at h
            · rename_i hs
              rw [if_pos hs]
              have hr : 1 ≤ r.length := by
                cases r with
                | nil => rcases hs with ⟨_, h | h⟩ | ⟨_, h⟩ <;> simp [isAt] at h
                | cons d r => simp
              rw [← List.cons_append, take_far (by simp; omega)]
              exact h
            · rename_i hs
              rw [if_neg hs]
              split at h
              · rename_i hm
                rw [if_pos hm, ← List.cons_append, take_far (by simp)]
                exact h
              · cases h
theorem skip_app1 {y : UInt8} (hy : y.toNat = 10) (B : List UInt8) : ∀ (x : List UInt8) (b : Bool), skip b x = [] → skip b (x ++ y :: B) = skip false B := by
  have hb : blank y = true := by simp [blank, hy]
  intro x
  induction x with
  | nil =>
    intro b _
    cases b
    · simp only [List.nil_append, skip]; rw [if_pos hb]
    · simp only [List.nil_append, skip]; rw [if_pos hy]
  | cons c x ih =>
    intro b h
    have e45 : isAt (x ++ y :: B) 0 45 = isAt x 0 45 := isAt_far (far_ne (Or.inr hy) (by decide) (by decide)) B x 0 (by omega)
    cases b
    · simp only [skip] at h
      simp only [List.cons_append, skip, e45]
      split at h
      · rename_i hc
        rw [if_pos hc]
        exact ih false h
      · rename_i hc
        rw [if_neg hc]
        split at h
        · rename_i hn
          rw [if_pos hn]
          exact ih true h
        · cases h
    · simp only [skip] at h
      simp only [List.cons_append, skip]
      split at h
      · rename_i hc
        rw [if_pos hc]
        exact ih false h
      · rename_i hc
        rw [if_neg hc]
        exact ih true h
theorem skip_app2 {y : UInt8} (hy : Far y) (B : List UInt8) : ∀ (x : List UInt8) (b : Bool) (c : UInt8) (r : List UInt8), skip b x = c :: r → skip b (x ++ y :: B) = (c :: r) ++ y :: B := by
  intro x
  induction x with
  | nil => intro b c r h; cases b <;> cases h
  | cons d x ih =>
    intro b c r h
    have e45 : isAt (x ++ y :: B) 0 45 = isAt x 0 45 := isAt_far (far_ne hy (by decide) (by decide)) B x 0 (by omega)
    cases b
    · simp only [skip] at h
      simp only [List.cons_append, skip, e45]
      split at h
      · rename_i hc
        rw [if_pos hc]
        exact ih false c r h
      · rename_i hc
        rw [if_neg hc]
        split at h
        · rename_i hn
          rw [if_pos hn]
          exact ih true c r h
        · rename_i hn
          rw [if_neg hn]
          injection h with h1 h2
          rw [h1, h2]
    · simp only [skip] at h
      simp only [List.cons_append, skip]
      split at h
      · rename_i hc
        rw [if_pos hc]
        exact ih false c r h
      · rename_i hc
        rw [if_neg hc]
        exact ih true c r h
theorem toks_fuel : ∀ (n : Nat) (l : List UInt8) (f f' a : Nat), l.length ≤ n → l.length < f → l.length < f' → toks f a l = toks f' a l := by
  intro n
  induction n with
  | zero =>
    intro l f f' a hn hf hf'
    obtain rfl : l = [] := List.eq_nil_of_length_eq_zero (by omega)
    obtain ⟨g, rfl⟩ : ∃ g, f = g + 1 := ⟨f - 1, by omega⟩
    obtain ⟨g', rfl⟩ : ∃ g, f' = g + 1 := ⟨f' - 1, by omega⟩
    rfl
  | succ n ih =>
    intro l f f' a hn hf hf'
    obtain ⟨g, rfl⟩ : ∃ g, f = g + 1 := ⟨f - 1, by omega⟩
    obtain ⟨g', rfl⟩ : ∃ g, f' = g + 1 := ⟨f' - 1, by omega⟩
    have hsk := skip_len l false
    simp only [toks]
    cases hs : skip false l with
    | nil => rfl
    | cons c r =>
      rw [hs] at hsk
      simp only
      cases ht : token (c :: r) with
      | none => rfl
      | some t =>
        obtain ⟨k, s, m⟩ := t
        have hm := token_len ht
        simp only
        rw [ih ((c :: r).drop m) g g' _ (by rw [List.length_drop]; omega) (by rw [List.length_drop]; omega) (by rw [List.length_drop]; omega)]
/-- All tokens from a place on. -/
def run (a : Nat) (l : List UInt8) : Except Nat (List Tok) := toks (l.length + 1) a l
theorem run_nil {a : Nat} {l : List UInt8} (h : skip false l = []) : run a l = .ok [] := by
  unfold run toks
  rw [h]
theorem run_bad {a : Nat} {l r : List UInt8} {c : UInt8} (h : skip false l = c :: r) (ht : token (c :: r) = none) : run a l = .error (a + (l.length - (c :: r).length)) := by
  unfold run toks
  rw [h]
  simp only [ht]
theorem run_some {a : Nat} {l r : List UInt8} {c : UInt8} {k : UInt8} {s : List UInt8} {n : Nat} (h : skip false l = c :: r) (ht : token (c :: r) = some (k, s, n)) : run a l = pre [(k, s, a + (l.length - (c :: r).length))] (run (a + (l.length - (c :: r).length) + n) ((c :: r).drop n)) := by
  have hsk := skip_len l false
  rw [h] at hsk
  have hm := token_len ht
  have e : run (a + (l.length - (c :: r).length) + n) ((c :: r).drop n) = toks l.length (a + (l.length - (c :: r).length) + n) ((c :: r).drop n) := by
    unfold run
    exact toks_fuel _ _ _ _ _ (Nat.le_refl _) (by omega) (by rw [List.length_drop]; omega)
  rw [e]
  conv => lhs; unfold run toks
  rw [h]
  simp only [ht]
  cases toks l.length (a + (l.length - (c :: r).length) + n) ((c :: r).drop n) <;> rfl
theorem pre_pre (x y : List Tok) (z : Except Nat (List Tok)) : pre x (pre y z) = pre (x ++ y) z := by cases z <;> simp [pre]
theorem run_app {y : UInt8} (hy : y.toNat = 10) (B : List UInt8) : ∀ (n : Nat) (x : List UInt8) (a : Nat) (tx : List Tok), x.length ≤ n → run a x = .ok tx → run a (x ++ y :: B) = pre tx (run (a + x.length + 1) B) := by
  intro n
  induction n with
  | zero =>
    intro x a tx hn h
    obtain rfl : x = [] := List.eq_nil_of_length_eq_zero (by omega)
    have ht : tx = [] := by
      rw [run_nil rfl] at h
      injection h with h
      exact h.symm
    subst ht
    rw [pre_nil]
    have e1 := skip_app1 hy B [] false rfl
    cases hs : skip false B with
    | nil => rw [run_nil hs, run_nil (by rw [e1, hs])]
    | cons c r =>
      rw [hs] at e1
      have hsk := skip_len B false
      rw [hs] at hsk
      have e2 : a + (([] ++ y :: B).length - (c :: r).length) = a + ([] : List UInt8).length + 1 + (B.length - (c :: r).length) := by simp only [List.nil_append, List.length_cons, List.length_nil] at hsk ⊢; omega
      cases ht : token (c :: r) with
      | none => rw [run_bad hs ht, run_bad e1 ht, e2]
      | some t =>
        obtain ⟨k, s, m⟩ := t
        rw [run_some hs ht, run_some e1 ht, e2]
  | succ n ih =>
    intro x a tx hn h
    cases hs : skip false x with
    | nil =>
      have ht : tx = [] := by
        rw [run_nil hs] at h
        injection h with h
        exact h.symm
      subst ht
      rw [pre_nil]
      have e1 := skip_app1 hy B x false hs
      cases hs2 : skip false B with
      | nil => rw [run_nil hs2, run_nil (by rw [e1, hs2])]
      | cons c r =>
        rw [hs2] at e1
        have hsk := skip_len B false
        rw [hs2] at hsk
        have e2 : a + ((x ++ y :: B).length - (c :: r).length) = a + x.length + 1 + (B.length - (c :: r).length) := by simp only [List.length_append, List.length_cons] at hsk ⊢; omega
        cases ht : token (c :: r) with
        | none => rw [run_bad hs2 ht, run_bad e1 ht, e2]
        | some t =>
          obtain ⟨k, s, m⟩ := t
          rw [run_some hs2 ht, run_some e1 ht, e2]
    | cons c r =>
      have e1 := skip_app2 (Or.inr hy) B x false c r hs
      have hsk := skip_len x false
      rw [hs] at hsk
      cases ht : token (c :: r) with
      | none =>
        rw [run_bad hs ht] at h
        cases h
      | some t =>
        obtain ⟨k, s, m⟩ := t
        have hm := token_len ht
        rw [run_some hs ht] at h
        have e3 := token_app (Or.inr hy) B ht
        rw [run_some (r := r ++ y :: B) (c := c) e1 e3]
        have e4 : a + ((x ++ y :: B).length - (c :: (r ++ y :: B)).length) = a + (x.length - (c :: r).length) := by simp only [List.length_append, List.length_cons] at hsk ⊢; omega
        rw [e4]
        have e5 : (c :: (r ++ y :: B)).drop m = (c :: r).drop m ++ y :: B := by rw [← List.cons_append, drop_far hm.2.1]
        rw [e5]
        cases hr : run (a + (x.length - (c :: r).length) + m) ((c :: r).drop m) with
        | error e => rw [hr] at h; cases h
        | ok ts =>
          rw [hr] at h
          simp only [pre] at h
          injection h with h
          have := ih ((c :: r).drop m) (a + (x.length - (c :: r).length) + m) ts (by rw [List.length_drop]; omega) hr
          rw [this, pre_pre, ← h]
          congr 1
          rw [List.length_drop]
          congr 1
          simp only [List.length_cons] at hsk hm ⊢
          omega
/-- Tokens that stand further on. -/
def moved (d : Nat) (ts : List Tok) : List Tok := ts.map fun t => (t.1, t.2.1, t.2.2 + d)
def movedE (d : Nat) : Except Nat (List Tok) → Except Nat (List Tok)
  | .error e => .error (e + d)
  | .ok ts => .ok (moved d ts)
theorem run_moved : ∀ (n : Nat) (l : List UInt8) (a d : Nat), l.length ≤ n → run (a + d) l = movedE d (run a l) := by
  intro n
  induction n with
  | zero =>
    intro l a d hn
    obtain rfl : l = [] := List.eq_nil_of_length_eq_zero (by omega)
    rw [run_nil rfl, run_nil rfl]
    rfl
  | succ n ih =>
    intro l a d hn
    cases hs : skip false l with
    | nil => rw [run_nil hs, run_nil hs]; rfl
    | cons c r =>
      have hsk := skip_len l false
      rw [hs] at hsk
      cases ht : token (c :: r) with
      | none =>
        rw [run_bad hs ht, run_bad hs ht]
        show _ = Except.error _
        congr 1
        omega
      | some t =>
        obtain ⟨k, s, m⟩ := t
        have hm := token_len ht
        rw [run_some hs ht, run_some hs ht]
        have e : a + d + (l.length - (c :: r).length) + m = a + (l.length - (c :: r).length) + m + d := by omega
        rw [e, ih ((c :: r).drop m) _ d (by rw [List.length_drop]; omega)]
        cases run (a + (l.length - (c :: r).length) + m) ((c :: r).drop m) with
        | error e => rfl
        | ok ts =>
          simp only [movedE, pre, moved, List.map_append, List.map_cons, List.map_nil]
          congr 3
          rw [show a + d + (l.length - (c :: r).length) = a + (l.length - (c :: r).length) + d by omega]
theorem told_run (l : List UInt8) (h : ¬ 4096 < l.length) : told l = match run 0 l with | .error e => ([], 290, e) | .ok ts => (ts, 0, 0) := by
  cases hr : run 0 l with
  | error e => exact told_error h hr
  | ok ts => exact told_ok h hr
/-- Two texts joined by a line break. -/
theorem told_joined {y : UInt8} (hy : y.toNat = 10) {A B : List UInt8} {ta : List Tok} (hl : ¬ 4096 < (A ++ y :: B).length) (ha : told A = (ta, 0, 0)) : told (A ++ y :: B) = if (told B).2.1 = 0 then (ta ++ moved (A.length + 1) (told B).1, 0, 0) else ([], (told B).2.1, (told B).2.2 + (A.length + 1)) := by
  have hA : ¬ 4096 < A.length := by simp at hl; omega
  have hB : ¬ 4096 < B.length := by simp at hl; omega
  have hra : run 0 A = .ok ta := by
    rw [told_run A hA] at ha
    cases hr : run 0 A with
    | error e => rw [hr] at ha; simp at ha
    | ok ts => rw [hr] at ha; simp at ha; rw [ha]
  have h1 := run_app hy B _ A 0 ta (Nat.le_refl _) hra
  have h2 := run_moved _ B 0 (A.length + 1) (Nat.le_refl _)
  rw [show 0 + A.length + 1 = 0 + (A.length + 1) by omega, h2] at h1
  rw [told_run _ hl, told_run B hB, h1]
  cases run 0 B with
  | error e => simp [movedE, pre]
  | ok ts => simp [movedE, pre]
end Go.Proofs.YtfoolkjamadfdaaDoor.Lex
