/-
  Plain: tokens that are put behind one another, each behind a blank and a note, are the same but for their places. Conditions: none. No program is named here.
-/
import Derived.Test.YtfoolkjamadfdaaDoorPartMath
namespace Go.Proofs.YtfoolkjamadfdaaDoor.Lex

/-- Tokens, places aside. -/
def bare (ts : List Tok) : List (UInt8 × List UInt8) := ts.map fun t => (t.1, t.2.1)
theorem bare_moved (d : Nat) (ts : List Tok) : bare (moved d ts) = bare ts := by
  unfold bare moved
  rw [List.map_map]
  rfl
/-- A text's tokens are these, places aside. -/
def Sk (l : List UInt8) (sk : List (UInt8 × List UInt8)) : Prop := ∃ ts, run 0 l = .ok ts ∧ bare ts = sk
theorem Sk.at {l : List UInt8} {sk : List (UInt8 × List UInt8)} (h : Sk l sk) (a : Nat) : ∃ ts, run a l = .ok ts ∧ bare ts = sk := by
  obtain ⟨ts, h1, h2⟩ := h
  have := run_moved _ l 0 a (Nat.le_refl _)
  rw [Nat.zero_add, h1] at this
  exact ⟨_, this, by rw [bare_moved]; exact h2⟩
theorem Sk.of {l : List UInt8} {a : Nat} {ts : List Tok} (h : run a l = .ok ts) : Sk l (bare ts) := by
  have := run_moved _ l 0 a (Nat.le_refl _)
  rw [Nat.zero_add, h] at this
  cases h0 : run 0 l with
  | error e => rw [h0] at this; cases this
  | ok t0 =>
    rw [h0] at this
    injection this with this
    exact ⟨t0, h0, by rw [this, bare_moved]⟩
theorem Sk.cons {l r : List UInt8} {c k : UInt8} {s : List UInt8} {n : Nat} {sk : List (UInt8 × List UInt8)} (h : skip false l = c :: r) (ht : token (c :: r) = some (k, s, n)) (hs : Sk ((c :: r).drop n) sk) : Sk l ((k, s) :: sk) := by
  obtain ⟨ts, h1, h2⟩ := hs.at (0 + (l.length - (c :: r).length) + n)
  refine ⟨(k, s, 0 + (l.length - (c :: r).length)) :: ts, ?_, ?_⟩
  · rw [run_some h ht, h1]; rfl
  · show (k, s) :: bare ts = _
    rw [h2]
theorem Sk.nil {l : List UInt8} (h : skip false l = []) : Sk l [] := ⟨[], run_nil h, rfl⟩
theorem Sk.same {l l' : List UInt8} {sk : List (UInt8 × List UInt8)} (h : Sk l sk) (he : skip false l' = skip false l) : Sk l' sk := by
  cases hs : skip false l with
  | nil =>
    obtain ⟨ts, h1, h2⟩ := h
    rw [run_nil hs] at h1
    injection h1 with h1
    subst h1 h2
    exact Sk.nil (he.trans hs)
  | cons c r =>
    obtain ⟨ts, h1, h2⟩ := h
    cases ht : token (c :: r) with
    | none => rw [run_bad hs ht] at h1; cases h1
    | some t =>
      obtain ⟨k, s, n⟩ := t
      rw [run_some hs ht] at h1
      cases hr : run (0 + (l.length - (c :: r).length) + n) ((c :: r).drop n) with
      | error e => rw [hr] at h1; cases h1
      | ok ts' =>
        rw [hr] at h1
        injection h1 with h1
        subst h1 h2
        exact Sk.cons (he.trans hs) ht (Sk.of hr)

theorem skip_take (W : List UInt8) : ∀ (l : List UInt8) (b : Bool) (c : UInt8) (r : List UInt8), skip b l = c :: r → skip b (l.take (l.length - (c :: r).length) ++ W) = skip false W ∧ c :: r = l.drop (l.length - (c :: r).length) := by
  intro l
  induction l with
  | nil => intro b c r h; cases b <;> cases h
  | cons x l ih =>
    intro b c r h
    have step : ∀ b', skip b' l = c :: r → (x :: l).take ((x :: l).length - (c :: r).length) = x :: l.take (l.length - (c :: r).length) ∧ (x :: l).drop ((x :: l).length - (c :: r).length) = l.drop (l.length - (c :: r).length) := by
      intro b' hb
      have hl := skip_len l b'
      rw [hb] at hl
      rw [show (x :: l).length - (c :: r).length = (l.length - (c :: r).length) + 1 by simp only [List.length_cons] at hl ⊢; omega]
      exact ⟨rfl, rfl⟩
    cases b with
    | true =>
      simp only [skip] at h
      split at h
      · rename_i h10
        obtain ⟨e1, e2⟩ := step _ h
        obtain ⟨i1, i2⟩ := ih _ _ _ h
        rw [e1, e2]
        refine ⟨?_, i2⟩
        simp only [List.cons_append, skip]
        rw [if_pos h10]
        exact i1
      · rename_i h10
        obtain ⟨e1, e2⟩ := step _ h
        obtain ⟨i1, i2⟩ := ih _ _ _ h
        rw [e1, e2]
        refine ⟨?_, i2⟩
        simp only [List.cons_append, skip]
        rw [if_neg h10]
        exact i1
    | false =>
      simp only [skip] at h
      split at h
      · rename_i hb
        obtain ⟨e1, e2⟩ := step _ h
        obtain ⟨i1, i2⟩ := ih _ _ _ h
        rw [e1, e2]
        refine ⟨?_, i2⟩
        simp only [List.cons_append, skip]
        rw [if_pos hb]
        exact i1
      · rename_i hb
        split at h
        · rename_i h45
          obtain ⟨e1, e2⟩ := step _ h
          obtain ⟨i1, i2⟩ := ih _ _ _ h
          rw [e1, e2]
          refine ⟨?_, i2⟩
          have hat : isAt (l.take (l.length - (c :: r).length) ++ W) 0 45 = true := by
            cases l with
            | nil => simp [isAt] at h45
            | cons y l =>
              have hlt : (c :: r).length < (y :: l).length := by
                have h' := h
                simp only [skip] at h'
                split at h'
                · have := skip_len l false; rw [h'] at this; simp only [List.length_cons] at this ⊢; omega
                · have := skip_len l true; rw [h'] at this; simp only [List.length_cons] at this ⊢; omega
              rw [show (y :: l).length - (c :: r).length = (l.length - (c :: r).length) + 1 by simp only [List.length_cons] at hlt ⊢; omega]
              exact h45.2
          simp only [List.cons_append, skip]
          rw [if_neg hb, if_pos ⟨h45.1, hat⟩]
          exact i1
        · injection h with h1 h2
          subst h1 h2
          simp
theorem isAt_take {l : List UInt8} {m i : Nat} {c : UInt8} (h : i < m) : isAt (l.take m) i c = isAt l i c := by
  unfold isAt
  rw [List.getElem?_take, if_pos h]
theorem isAt_take_no {l : List UInt8} {m i : Nat} {c : UInt8} (h : isAt l i c = false) : isAt (l.take m) i c = false := by
  unfold isAt at h ⊢
  rw [List.getElem?_take]
  split
  · exact h
  · simp
theorem span_take {p : UInt8 → Bool} : ∀ (l : List UInt8) (m : Nat), span p (l.take m) = min m (span p l) := by
  intro l
  induction l with
  | nil => intro m; simp [span]
  | cons c l ih =>
    intro m
    cases m with
    | zero => simp [span]
    | succ m =>
      simp only [List.take_succ_cons, span]
      split
      · rw [ih]; omega
      · omega
theorem quote_take : ∀ (f : Nat) (l : List UInt8), l.length ≤ f → ∀ s x m, quote l = some (s, x) → l.length - x.length ≤ m → quote (l.take m) = some (s, x.take (m - (l.length - x.length))) := by
  intro f
  induction f with
  | zero =>
    intro l h s x m hq
    obtain rfl : l = [] := List.eq_nil_of_length_eq_zero (by omega)
    cases hq
  | succ f ih =>
    intro l h s x m hq hm
    match l, h with
    | [], _ => cases hq
    | [c], _ =>
      simp only [quote] at hq
      split at hq
      · rename_i h39
        injection hq with hq
        injection hq with h1 h2
        subst h1 h2
        simp only [List.length_cons, List.length_nil] at hm
        obtain ⟨m', rfl⟩ : ∃ m', m = m' + 1 := ⟨m - 1, by omega⟩
        simp [quote, h39]
      · cases hq
    | c :: d :: l, h =>
      simp only [quote] at hq
      split at hq
      · rename_i h39
        split at hq
        · rename_i hd39
          cases hl : quote l with
          | none => rw [hl] at hq; cases hq
          | some p =>
            rw [hl] at hq
            simp only [Option.map_some, Option.some.injEq, Prod.mk.injEq] at hq
            have hlen := quote_len _ _ (Nat.le_refl _) p.1 p.2 hl
            obtain ⟨rfl, rfl⟩ := hq
            simp only [List.length_cons] at hm
            obtain ⟨m', rfl⟩ : ∃ m', m = m' + 1 + 1 := ⟨m - 2, by omega⟩
            have := ih l (by simp at h; omega) p.1 p.2 m' hl (by omega)
            simp only [List.take_succ_cons, quote]
            rw [if_pos h39, if_pos hd39, this]
            simp only [Option.map_some, List.length_cons]
            rw [show m' + 1 + 1 - (l.length + 1 + 1 - p.2.length) = m' - (l.length - p.2.length) by omega]
        · rename_i hd39
          injection hq with hq
          injection hq with h1 h2
          subst h1 h2
          simp only [List.length_cons] at hm
          obtain ⟨m', rfl⟩ : ∃ m', m = m' + 1 := ⟨m - 1, by omega⟩
          cases m' with
          | zero => simp [quote, h39]
          | succ m' =>
            simp only [List.take_succ_cons, quote]
            rw [if_pos h39, if_neg hd39]
            simp only [List.length_cons]
            rw [show m' + 1 + 1 - (l.length + 1 + 1 - (l.length + 1)) = m' + 1 by omega]
            rfl
      · rename_i h39
        cases hl : quote (d :: l) with
        | none => rw [hl] at hq; cases hq
        | some p =>
          rw [hl] at hq
          simp only [Option.map_some, Option.some.injEq, Prod.mk.injEq] at hq
          have hlen := quote_len _ _ (Nat.le_refl _) p.1 p.2 hl
          obtain ⟨rfl, rfl⟩ := hq
          simp only [List.length_cons] at hm hlen
          obtain ⟨m', rfl⟩ : ∃ m', m = m' + 1 + 1 := ⟨m - 2, by omega⟩
          have := ih (d :: l) (by simp at h ⊢; omega) p.1 p.2 (m' + 1) hl (by simp only [List.length_cons]; omega)
          simp only [List.take_succ_cons] at this ⊢
          simp only [quote]
          rw [if_neg h39, this]
          simp only [Option.map_some, List.length_cons]
          rw [show m' + 1 + 1 - (l.length + 1 + 1 - p.2.length) = m' + 1 - (l.length + 1 - p.2.length) by omega]
theorem pairs_take : ∀ (f : Nat) (l : List UInt8), l.length ≤ f → ∀ s x m, pairs l = some (s, x) → l.length - x.length ≤ m → pairs (l.take m) = some (s, x.take (m - (l.length - x.length))) := by
  intro f
  induction f with
  | zero =>
    intro l h s x m hq
    obtain rfl : l = [] := List.eq_nil_of_length_eq_zero (by omega)
    cases hq
  | succ f ih =>
    intro l h s x m hq hm
    match l, h with
    | [], _ => cases hq
    | [c], _ =>
      simp only [pairs] at hq
      split at hq
      · rename_i h39
        injection hq with hq
        injection hq with h1 h2
        subst h1 h2
        simp only [List.length_cons, List.length_nil] at hm
        obtain ⟨m', rfl⟩ : ∃ m', m = m' + 1 := ⟨m - 1, by omega⟩
        simp [pairs, h39]
      · cases hq
    | c :: d :: l, h =>
      simp only [pairs] at hq
      split at hq
      · rename_i h39
        injection hq with hq
        injection hq with h1 h2
        subst h1 h2
        simp only [List.length_cons] at hm
        obtain ⟨m', rfl⟩ : ∃ m', m = m' + 1 := ⟨m - 1, by omega⟩
        cases m' with
        | zero => simp [pairs, h39]
        | succ m' =>
          simp only [List.take_succ_cons, pairs]
          rw [if_pos h39]
          simp only [List.length_cons]
          rw [show m' + 1 + 1 - (l.length + 1 + 1 - (l.length + 1)) = m' + 1 by omega]
          rfl
      · rename_i h39
        split at hq
        · rename_i hx
          cases hl : pairs l with
          | none => rw [hl] at hq; cases hq
          | some p =>
            rw [hl] at hq
            simp only [Option.map_some, Option.some.injEq, Prod.mk.injEq] at hq
            have hlen := pairs_len _ _ (Nat.le_refl _) p.1 p.2 hl
            obtain ⟨rfl, rfl⟩ := hq
            simp only [List.length_cons] at hm
            obtain ⟨m', rfl⟩ : ∃ m', m = m' + 1 + 1 := ⟨m - 2, by omega⟩
            have := ih l (by simp at h; omega) p.1 p.2 m' hl (by omega)
            simp only [List.take_succ_cons, pairs]
            rw [if_neg h39, if_pos hx, this]
            simp only [Option.map_some, List.length_cons]
            rw [show m' + 1 + 1 - (l.length + 1 + 1 - p.2.length) = m' - (l.length - p.2.length) by omega]
        · cases hq
theorem take_take_le {l : List UInt8} {n m : Nat} (h : n ≤ m) : (l.take m).take n = l.take n := by rw [List.take_take, Nat.min_eq_left h]
/-- A token is the same if what stands behind it is cut off. -/
theorem token_take {l : List UInt8} {k : UInt8} {s : List UInt8} {n m : Nat} (h : token l = some (k, s, n)) (hm : n ≤ m) : token (l.take m) = some (k, s, n) := by
  have hlen := token_len h
  cases l with
  | nil => cases h
  | cons c r =>
    obtain ⟨m', rfl⟩ : ∃ m', m = m' + 1 := ⟨m - 1, by omega⟩
    have key : ∀ d, 2 ≤ n → isAt (r.take m') 0 d = isAt r 0 d := fun d h2 => isAt_take (by omega)
    unfold token at h ⊢
    simp only [List.take_succ_cons] at h ⊢
    split at h
    · rename_i hx
      unfold pairsT at h
      cases hp : pairs ((c :: r).drop 2) with
      | none => rw [hp] at h; cases h
      | some p =>
        obtain ⟨s', x⟩ := p
        rw [hp] at h
        simp only at h
        have hl := pairs_len _ _ (Nat.le_refl _) s' x hp
        rw [List.length_drop] at hl
        simp only [List.length_cons] at hl
        split at h
        · rename_i h200
          injection h with h
          simp only [Prod.mk.injEq] at h
          obtain ⟨h1, h2, h3⟩ := h
          subst h1 h2
          simp only [List.length_cons] at h3 hlen
          rw [key 39 (by omega), if_pos hx]
          unfold pairsT
          have e : (c :: r.take m').drop 2 = ((c :: r).drop 2).take (m' - 1) := by
            cases r with
            | nil => simp
            | cons d r =>
              obtain ⟨m'', rfl⟩ : ∃ m'', m' = m'' + 1 := ⟨m' - 1, by omega⟩
              simp
          rw [e, pairs_take _ _ (Nat.le_refl _) s' x (m' - 1) hp (by rw [List.length_drop]; simp only [List.length_cons]; omega)]
          simp only
          rw [if_pos h200]
          simp only [List.length_cons, List.length_take, List.length_drop, Option.some.injEq, Prod.mk.injEq, true_and]
          omega
        · cases h
    · rename_i hx
      split at h
      · rename_i hl
        unfold wordT at h
        split at h
        · rename_i h24
          injection h with h
          simp only [Prod.mk.injEq] at h
          obtain ⟨h1, h2, h3⟩ := h
          subst h1 h2 h3
          have hx' : ¬ (c.toNat = 120 ∧ isAt (r.take m') 0 39 = true) := by
            rintro ⟨a, b⟩
            refine hx ⟨a, ?_⟩
            cases hb : isAt r 0 39 with
            | true => rfl
            | false => rw [isAt_take_no hb] at b; cases b
          rw [if_neg hx', if_pos hl]
          unfold wordT
          have e : c :: r.take m' = (c :: r).take (m' + 1) := rfl
          rw [e, span_take, Nat.min_eq_right hm, if_pos h24, take_take_le hm]
        · cases h
      · rename_i hl
        have hx' : ¬ (c.toNat = 120 ∧ isAt (r.take m') 0 39 = true) := by
          rintro ⟨a, b⟩
          exact hl (by simp [letter, a])
        rw [if_neg hx', if_neg hl]
        split at h
        · rename_i hd
          rw [if_pos hd]
          have e : c :: r.take m' = (c :: r).take (m' + 1) := rfl
          rw [e]
          have hpos := span_pos (l := r) hd
          unfold numberT at h ⊢
          have e48 : isAt ((c :: r).take (m' + 1)) 0 48 = isAt (c :: r) 0 48 := isAt_take (by omega)
          split at h
          · cases h
          · rename_i h0
            split at h
            · rename_i h1
              split at h
              · cases h
              · rename_i h2
                injection h with h
                simp only [Prod.mk.injEq] at h
                obtain ⟨h3, h4, h5⟩ := h
                subst h3 h4 h5
                have es : span digit ((c :: r).take (m' + 1)) = span digit (c :: r) := by rw [span_take]; omega
                have ed : span digit (((c :: r).take (m' + 1)).drop (span digit (c :: r) + 1)) = span digit ((c :: r).drop (span digit (c :: r) + 1)) := by rw [List.drop_take, span_take]; omega
                rw [es, ed, e48, if_neg h0, isAt_take (by omega), if_pos h1, if_neg h2, take_take_le hm]
            · rename_i h1
              injection h with h
              simp only [Prod.mk.injEq] at h
              obtain ⟨h3, h4, h5⟩ := h
              subst h3 h4 h5
              have es : span digit ((c :: r).take (m' + 1)) = span digit (c :: r) := by rw [span_take]; omega
              rw [es, e48, if_neg h0]
              have h1' : ¬ (isAt ((c :: r).take (m' + 1)) (span digit (c :: r)) 46 = true ∧ 0 < span digit (((c :: r).take (m' + 1)).drop (span digit (c :: r) + 1))) := by
                rintro ⟨a, b⟩
                refine h1 ⟨?_, ?_⟩
                · cases hb : isAt (c :: r) (span digit (c :: r)) 46 with
                  | true => rfl
                  | false => rw [isAt_take_no hb] at a; cases a
                · rw [List.drop_take, span_take] at b; omega
              rw [if_neg h1', take_take_le hm]
        · rename_i hd
          rw [if_neg hd]
          split at h
          · rename_i hq
            rw [if_pos hq]
            unfold quoteT at h ⊢
            simp only [List.drop_succ_cons, List.drop_zero] at h ⊢
            cases hp : quote r with
            | none => rw [hp] at h; cases h
            | some p =>
              obtain ⟨s', x⟩ := p
              rw [hp] at h
              have hl := quote_len _ _ (Nat.le_refl _) s' x hp
              simp only at h
              split at h
              · rename_i h200
                injection h with h
                simp only [Prod.mk.injEq] at h
                obtain ⟨h1, h2, h3⟩ := h
                subst h1 h2
                simp only [List.length_cons] at h3
                rw [quote_take _ _ (Nat.le_refl _) s' x m' hp (by omega)]
                simp only
                rw [if_pos h200]
                simp only [List.length_cons, List.length_take, Option.some.injEq, Prod.mk.injEq, true_and]
                omega
              · cases h
          · rename_i hq
            rw [if_neg hq]
            have e : c :: r.take m' = (c :: r).take (m' + 1) := rfl
            unfold signT at h ⊢
            simp only at h ⊢
            split at h
            · rename_i hs
              injection h with h
              simp only [Prod.mk.injEq] at h
              obtain ⟨h1, h2, h3⟩ := h
              subst h1 h2 h3
              rw [key 62 (by omega), key 61 (by omega), if_pos hs, e, take_take_le hm]
            · rename_i hs
              split at h
              · rename_i hmem
                injection h with h
                simp only [Prod.mk.injEq] at h
                obtain ⟨h1, h2, h3⟩ := h
                subst h1 h2 h3
                have no : ∀ d, isAt (r.take m') 0 d = true → isAt r 0 d = true := by
                  intro d hd
                  cases hb : isAt r 0 d with
                  | true => rfl
                  | false => rw [isAt_take_no hb] at hd; cases hd
                have hs' : ¬ ((c.toNat = 60 ∧ (isAt (r.take m') 0 62 = true ∨ isAt (r.take m') 0 61 = true)) ∨ (c.toNat = 62 ∧ isAt (r.take m') 0 61 = true)) := by
                  rintro (⟨a, b | b⟩ | ⟨a, b⟩)
                  · exact hs (.inl ⟨a, .inl (no _ b)⟩)
                  · exact hs (.inl ⟨a, .inr (no _ b)⟩)
                  · exact hs (.inr ⟨a, no _ b⟩)
                rw [if_neg hs', if_pos hmem, e, take_take_le hm]
              · cases h
/-- What is put ahead of each token: a tab, a blank, a note, a line break, a blank. -/
def pad (nt : List UInt8) : List UInt8 := 9 :: 32 :: 45 :: 45 :: (nt ++ [10, 32])
theorem skip_padnote : ∀ (nt : List UInt8) (W : List UInt8), (∀ c ∈ nt, c.toNat ≠ 10) → skip true (nt ++ 10 :: W) = skip false W := by
  intro nt
  induction nt with
  | nil => intro W _; simp [skip]
  | cons c nt ih =>
    intro W h
    simp only [List.cons_append, skip]
    rw [if_neg (h c (by simp))]
    exact ih W fun d hd => h d (by simp [hd])
theorem skip_pad (nt : List UInt8) (W : List UInt8) (h : ∀ c ∈ nt, c.toNat ≠ 10) : skip false (pad nt ++ W) = skip false W := by
  have e : pad nt ++ W = 9 :: 32 :: 45 :: 45 :: (nt ++ 10 :: 32 :: W) := by simp [pad]
  have h1 := skip_padnote nt (32 :: W) h
  rw [e]
  simp [skip, blank, isAt, h1]
/-- Where a token's part ends: where the next token stands, or the text's end. -/
def endOf (n : Nat) (ts : List Tok) : Nat := match ts with | [] => n | t :: _ => t.2.2
def wideOf (nt T : List UInt8) : List Tok → List UInt8
  | [] => []
  | t :: r => pad nt ++ ((T.take (endOf T.length r)).drop t.2.2 ++ wideOf nt T r)
theorem wide_head (nt T : List UInt8) (ts : List Tok) : wideOf nt T ts = [] ∨ ∃ W, wideOf nt T ts = 9 :: W := by
  cases ts with
  | nil => exact .inl rfl
  | cons t r => exact .inr ⟨_, rfl⟩
theorem token_wide {l : List UInt8} {k : UInt8} {s : List UInt8} {n m : Nat} (h : token l = some (k, s, n)) (hm : n ≤ m) (nt T : List UInt8) (ts : List Tok) : token (l.take m ++ wideOf nt T ts) = some (k, s, n) := by
  rcases wide_head nt T ts with e | ⟨W, e⟩
  · rw [e, List.append_nil]
    exact token_take h hm
  · rw [e]
    exact token_app (.inl rfl) W (token_take h hm)
/-- A token that stands ahead is not passed over, whatever stands behind. -/
theorem skip_stay {c : UInt8} {r : List UInt8} {x : List UInt8} {b : Bool} (h : skip b x = c :: r) : blank c = false ∧ ¬ (c.toNat = 45 ∧ isAt r 0 45 = true) := by
  induction x generalizing b with
  | nil => cases b <;> cases h
  | cons d x ih =>
    cases b with
    | true =>
      simp only [skip] at h
      split at h
      · exact ih h
      · exact ih h
    | false =>
      simp only [skip] at h
      split at h
      · exact ih h
      · rename_i hb
        split at h
        · exact ih h
        · rename_i h45
          injection h with h1 h2
          subst h1 h2
          exact ⟨by simpa using hb, h45⟩
theorem skip_wide {c : UInt8} {r : List UInt8} {m : Nat} (hb : blank c = false) (h45 : ¬ (c.toNat = 45 ∧ isAt r 0 45 = true)) (nt T : List UInt8) (ts : List Tok) : skip false ((c :: r).take (m + 1) ++ wideOf nt T ts) = (c :: r).take (m + 1) ++ wideOf nt T ts := by
  simp only [List.take_succ_cons, List.cons_append, skip]
  rw [if_neg (by simp [hb]), if_neg]
  rintro ⟨a, b⟩
  refine h45 ⟨a, ?_⟩
  unfold isAt at b ⊢
  rw [decide_eq_true_eq] at b ⊢
  rcases Nat.lt_or_ge 0 (r.take m).length with h | h
  · rw [List.getElem?_append_left h, List.getElem?_take] at b
    split at b
    · exact b
    · cases b
  · have e : r.take m = [] := List.eq_nil_of_length_eq_zero (by omega)
    rw [e, List.nil_append] at b
    rcases wide_head nt T ts with e | ⟨W, e⟩ <;> rw [e] at b <;> simp at b
theorem run_wide (nt T : List UInt8) (hnt : ∀ c ∈ nt, c.toNat ≠ 10) : ∀ (n : Nat) (l : List UInt8) (a : Nat) (ts : List Tok), l.length ≤ n → l = T.drop a → a ≤ T.length → run a l = .ok ts → Sk (wideOf nt T ts) (bare ts) ∧ (∀ t r, ts = t :: r → skip false l = T.drop t.2.2 ∧ a ≤ t.2.2 ∧ t.2.2 < T.length) ∧ (ts = [] → skip false l = []) := by
  intro n
  induction n with
  | zero =>
    intro l a ts hn hl ha h
    obtain rfl : l = [] := List.eq_nil_of_length_eq_zero (by omega)
    rw [run_nil rfl] at h
    injection h with h
    subst h
    exact ⟨Sk.nil rfl, fun t r h => (by cases h), fun _ => rfl⟩
  | succ n ih =>
    intro l a ts hn hl ha h
    cases hs : skip false l with
    | nil =>
      rw [run_nil hs] at h
      injection h with h
      subst h
      exact ⟨Sk.nil rfl, fun t r h => (by cases h), fun _ => rfl⟩
    | cons c r =>
      have hsk := skip_len l false
      rw [hs] at hsk
      have hll : l.length = T.length - a := by rw [hl, List.length_drop]
      cases ht : token (c :: r) with
      | none => rw [run_bad hs ht] at h; cases h
      | some t =>
        obtain ⟨k, s, m⟩ := t
        have hm := token_len ht
        rw [run_some hs ht] at h
        obtain ⟨at_, hat⟩ : ∃ x, x = a + (l.length - (c :: r).length) := ⟨_, rfl⟩
        rw [← hat] at h
        have hcr : c :: r = T.drop at_ := by
          have := (skip_take [] l false c r hs).2
          rw [this, hl, List.drop_drop, ← hl, hat]
        have hcrl : (c :: r).length = T.length - at_ := by rw [hcr, List.length_drop]
        cases hr : run (at_ + m) ((c :: r).drop m) with
        | error e => rw [hr] at h; cases h
        | ok ts' =>
          rw [hr] at h
          injection h with h
          subst h
          have hcl : 0 < (c :: r).length := by simp
          obtain ⟨i1, i2, i3⟩ := ih ((c :: r).drop m) (at_ + m) ts' (by rw [List.length_drop]; omega) (by rw [hcr, List.drop_drop]) (by omega) hr
          refine ⟨?_, ?_, fun h => by cases h⟩
          · obtain ⟨hb, h45⟩ := skip_stay hs
            have he : at_ + m ≤ endOf T.length ts' ∧ endOf T.length ts' ≤ T.length := by
              cases ts' with
              | nil => exact ⟨by show _ ≤ T.length; omega, Nat.le_refl _⟩
              | cons u r' =>
                have := i2 u r' rfl
                exact ⟨this.2.1, by show u.2.2 ≤ _; omega⟩
            obtain ⟨E, hE⟩ : ∃ E, E = endOf T.length ts' := ⟨_, rfl⟩
            rw [← hE] at he
            have hp : (T.take E).drop at_ = (c :: r).take (E - at_) := by rw [hcr, List.drop_take]
            obtain ⟨p, hpp⟩ : ∃ p, E - at_ = p + 1 := ⟨E - at_ - 1, by omega⟩
            show Sk (pad nt ++ ((T.take (endOf T.length ts')).drop at_ ++ wideOf nt T ts')) ((k, s) :: bare ts')
            rw [← hE, hp, hpp]
            have h1 := skip_wide (m := p) hb h45 nt T ts'
            have htk := token_wide ht (show m ≤ p + 1 by omega) nt T ts'
            have htail : Sk (((c :: r).take (p + 1) ++ wideOf nt T ts').drop m) (bare ts') := by
              rw [List.drop_append_of_le_length (by rw [List.length_take]; omega), List.drop_take]
              refine i1.same ?_
              cases ts' with
              | nil =>
                have hEE : E = T.length := hE
                rw [List.take_of_length_le (by rw [List.length_drop]; omega)]
                show skip false (_ ++ []) = _
                rw [List.append_nil]
                exact i3 rfl
              | cons u r' =>
                obtain ⟨j1, j2, j3⟩ := i2 u r' rfl
                have hEE : E = u.2.2 := hE
                cases hd : T.drop u.2.2 with
                | nil =>
                  have := congrArg List.length hd
                  rw [List.length_drop] at this
                  simp at this
                  omega
                | cons d q =>
                  rw [hd] at j1
                  have hdl : (d :: q).length = T.length - u.2.2 := by rw [← hd, List.length_drop]
                  have h2 := (skip_take (wideOf nt T (u :: r')) ((c :: r).drop m) false d q j1).1
                  rw [List.length_drop, hcrl, hdl] at h2
                  rw [show p + 1 - m = T.length - at_ - m - (T.length - u.2.2) by omega]
                  exact h2
            have hcons : (c :: r).take (p + 1) ++ wideOf nt T ts' = c :: (r.take p ++ wideOf nt T ts') := rfl
            rw [hcons] at h1 htk htail
            exact Sk.cons ((skip_pad nt _ hnt).trans (by rw [hcons]; exact h1)) htk htail
          · intro t r' he
            injection he with h1 h2
            subst h1
            refine ⟨hcr, by show a ≤ at_; omega, by show at_ < _; omega⟩
/-- The law, plainly. -/
theorem told_wide {nt T : List UInt8} {ts : List Tok} (hnt : ∀ c ∈ nt, c.toNat ≠ 10) (h : told T = (ts, 0, 0)) (hw : ¬ 4096 < (wideOf nt T ts).length) : ∃ ts', told (wideOf nt T ts) = (ts', 0, 0) ∧ bare ts' = bare ts := by
  by_cases hT : 4096 < T.length
  · rw [told_long hT] at h; simp at h
  · rw [told_run T hT] at h
    cases hr : run 0 T with
    | error e => rw [hr] at h; simp at h
    | ok t0 =>
      rw [hr] at h
      simp only [Prod.mk.injEq, and_true] at h
      subst h
      obtain ⟨ts', h1, h2⟩ := (run_wide nt T hnt _ T 0 t0 (Nat.le_refl _) (by simp) (Nat.zero_le _) hr).1
      refine ⟨ts', ?_, h2⟩
      rw [told_run _ hw, h1]
end Go.Proofs.YtfoolkjamadfdaaDoor.Lex
