/-
  The plain mathematics of chapter 19: how a text is cut into tokens. Conditions: none. No program is named here.
-/
namespace Go.Proofs.YtfoolkjamadfdaaDoor.Lex

def letter (c : UInt8) : Bool := decide (97 ≤ c.toNat ∧ c.toNat ≤ 122) || decide (c.toNat = 95)
def digit (c : UInt8) : Bool := decide (48 ≤ c.toNat ∧ c.toNat ≤ 57)
def inWord (c : UInt8) : Bool := letter c || digit c
def hex (c : UInt8) : Bool := digit c || decide (97 ≤ c.toNat ∧ c.toNat ≤ 102)
def blank (c : UInt8) : Bool := decide (c.toNat = 32 ∨ c.toNat = 9 ∨ c.toNat = 10 ∨ c.toNat = 13)
def notLine (c : UInt8) : Bool := decide (c.toNat ≠ 10)
/-- How many bytes of a kind stand ahead. -/
def span (p : UInt8 → Bool) : List UInt8 → Nat
  | [] => 0
  | c :: l => if p c = true then span p l + 1 else 0
theorem span_le (p : UInt8 → Bool) : ∀ l, span p l ≤ l.length := by
  intro l
  induction l with
  | nil => simp [span]
  | cons c l ih => simp only [span, List.length_cons]; split <;> omega
/-- Does a byte stand at a place? -/
def isAt (l : List UInt8) (i : Nat) (c : UInt8) : Bool := decide (l[i]? = some c)

/-- What is left behind blanks and notes (true: within a note). -/
def skip : Bool → List UInt8 → List UInt8
  | _, [] => []
  | true, c :: l => if c.toNat = 10 then skip false l else skip true l
  | false, c :: l => if blank c = true then skip false l else if c.toNat = 45 ∧ isAt l 0 45 = true then skip true l else c :: l
theorem skip_len : ∀ (l : List UInt8) (b : Bool), (skip b l).length ≤ l.length := by
  intro l
  induction l with
  | nil => intro b; cases b <;> simp [skip]
  | cons c l ih =>
    intro b
    have h1 := ih true
    have h2 := ih false
    cases b <;> simp only [skip] <;> (repeat' split) <;> simp only [List.length_cons] <;> omega

/-- What a text says, from behind its first quote; what is left behind its last one. -/
def quote : List UInt8 → Option (List UInt8 × List UInt8)
  | [] => none
  | [c] => if c.toNat = 39 then some ([], []) else none
  | c :: d :: l => if c.toNat = 39 then (if d.toNat = 39 then (quote l).map (fun p => (39 :: p.1, p.2)) else some ([], d :: l)) else (quote (d :: l)).map (fun p => (c :: p.1, p.2))
def worth (c : UInt8) : Nat := if digit c = true then c.toNat - 48 else c.toNat - 87
def pair (a b : UInt8) : UInt8 := UInt8.ofNat (worth a * 16 + worth b)
/-- What bytes say, from behind the quote. -/
def pairs : List UInt8 → Option (List UInt8 × List UInt8)
  | [] => none
  | [c] => if c.toNat = 39 then some ([], []) else none
  | c :: d :: l => if c.toNat = 39 then some ([], d :: l) else if hex c = true ∧ hex d = true then (pairs l).map (fun p => (pair c d :: p.1, p.2)) else none

def signs : List UInt8 := [40, 41, 44, 46, 59, 43, 45, 42, 61, 60, 62]
/-- The token of bytes, of a number, of a text, of a sign, if such a one stands ahead. -/
def pairsT (l : List UInt8) : Option (UInt8 × List UInt8 × Nat) :=
  match pairs (l.drop 2) with
  | none => none
  | some (s, x) => if s.length ≤ 200 then some (4, s, l.length - x.length) else none
def wordT (l : List UInt8) : Option (UInt8 × List UInt8 × Nat) := if span inWord l ≤ 24 then some (1, l.take (span inWord l), span inWord l) else none
def numberT (l : List UInt8) : Option (UInt8 × List UInt8 × Nat) :=
  if isAt l 0 48 = true ∧ 1 < span digit l then none
  else if isAt l (span digit l) 46 = true ∧ 0 < span digit (l.drop (span digit l + 1)) then
    (if 4 < span digit (l.drop (span digit l + 1)) then none
     else some (2, l.take (span digit l + 1 + span digit (l.drop (span digit l + 1))), span digit l + 1 + span digit (l.drop (span digit l + 1))))
  else some (2, l.take (span digit l), span digit l)
def quoteT (l : List UInt8) : Option (UInt8 × List UInt8 × Nat) :=
  match quote (l.drop 1) with
  | none => none
  | some (s, x) => if s.length ≤ 200 then some (3, s, l.length - x.length) else none
def signT (l : List UInt8) : Option (UInt8 × List UInt8 × Nat) :=
  match l with
  | [] => none
  | c :: r =>
    if (c.toNat = 60 ∧ (isAt r 0 62 = true ∨ isAt r 0 61 = true)) ∨ (c.toNat = 62 ∧ isAt r 0 61 = true) then some (5, l.take 2, 2)
    else if c ∈ signs then some (5, l.take 1, 1)
    else none
/-- The token that stands ahead: its kind, what it says, how many bytes it takes. -/
def token (l : List UInt8) : Option (UInt8 × List UInt8 × Nat) :=
  match l with
  | [] => none
  | c :: r =>
    if c.toNat = 120 ∧ isAt r 0 39 = true then pairsT l
    else if letter c = true then wordT l
    else if digit c = true then numberT l
    else if c.toNat = 39 then quoteT l
    else signT l

abbrev Tok := UInt8 × List UInt8 × Nat
/-- The tokens of what is left at a place; or the place that is wrong. -/
def toks : Nat → Nat → List UInt8 → Except Nat (List Tok)
  | 0, _, _ => .ok []
  | f + 1, at_, l =>
    match skip false l with
    | [] => .ok []
    | c :: r =>
      match token (c :: r) with
      | none => .error (at_ + (l.length - (c :: r).length))
      | some (k, s, n) =>
        match toks f (at_ + (l.length - (c :: r).length) + n) ((c :: r).drop n) with
        | .error e => .error e
        | .ok ts => .ok ((k, s, at_ + (l.length - (c :: r).length)) :: ts)
/-- The tokens of a text, or the error and its place. -/
def tokens (l : List UInt8) : Except (Nat × Nat) (List Tok) :=
  if 4096 < l.length then .error (3, 0) else
  match toks (l.length + 1) 0 l with
  | .error e => .error (290, e)
  | .ok ts => .ok ts

theorem ex1 : tokens [97, 46, 98, 60, 62, 39, 105, 116, 39, 39, 115, 39, 32, 45, 45, 32, 120] = .ok [(1, [97], 0), (5, [46], 1), (1, [98], 2), (5, [60, 62], 3), (3, [105, 116, 39, 115], 5)] := by rfl
theorem ex2 : tokens [97, 32, 35, 32, 98] = .error (290, 2) := by rfl
theorem ex3 : tokens [120, 39, 48, 48, 102, 102, 39, 32, 49, 46, 53, 48] = .ok [(4, [0, 255], 0), (2, [49, 46, 53, 48], 8)] := by rfl
end Go.Proofs.YtfoolkjamadfdaaDoor.Lex
namespace Go.Proofs.YtfoolkjamadfdaaDoor.Lex
theorem span_drop_all (p : UInt8 → Bool) : ∀ (l : List UInt8) (j : Nat), j < span p l → ∃ c, l[j]? = some c ∧ p c = true := by
  intro l
  induction l with
  | nil => intro j h; simp [span] at h
  | cons c l ih =>
    intro j h
    simp only [span] at h
    split at h
    · rename_i hc
      cases j with
      | zero => exact ⟨c, rfl, hc⟩
      | succ j =>
        obtain ⟨d, h1, h2⟩ := ih j (by omega)
        exact ⟨d, by simpa using h1, h2⟩
    · omega
theorem span_stop (p : UInt8 → Bool) : ∀ (l : List UInt8) (c : UInt8), l[span p l]? = some c → p c = false := by
  intro l
  induction l with
  | nil => intro c h; simp [span] at h
  | cons d l ih =>
    intro c h
    simp only [span] at h
    split at h
    · exact ih c (by simpa using h)
    · rename_i hd
      simp at h
      subst h
      simpa using hd
/-- The span is the first place that is not of the kind. -/
theorem span_eq (p : UInt8 → Bool) : ∀ (l : List UInt8) (k : Nat), (∀ j c, j < k → l[j]? = some c → p c = true) → k ≤ l.length → (∀ c, l[k]? = some c → p c = false) → span p l = k := by
  intro l
  induction l with
  | nil => intro k _ h _; simp at h; subst h; rfl
  | cons d l ih =>
    intro k h1 h2 h3
    cases k with
    | zero =>
      have := h3 d rfl
      simp only [span]
      rw [if_neg (by simp [this])]
    | succ k =>
      have hd := h1 0 d (by omega) rfl
      simp only [span]
      rw [if_pos hd, ih k (fun j c hj hc => h1 (j + 1) c (by omega) (by simpa using hc)) (by simpa using h2) (fun c hc => h3 c (by simpa using hc))]
theorem skip_blank : ∀ l : List UInt8, skip false l = skip false (l.drop (span blank l)) := by
  intro l
  induction l with
  | nil => rfl
  | cons c l ih =>
    simp only [span]
    split
    · rename_i hc
      rw [List.drop_succ_cons, ← ih]
      simp only [skip]
      rw [if_pos hc]
    · rfl
theorem skip_line : ∀ l : List UInt8, skip true l = skip false (l.drop (span notLine l)) := by
  intro l
  induction l with
  | nil => rfl
  | cons c l ih =>
    simp only [span]
    by_cases hc : c.toNat = 10
    · rw [if_neg (by simp [notLine, hc]), List.drop_zero]
      simp only [skip]
      rw [if_pos hc, if_pos (by simp [blank, hc])]
    · rw [if_pos (by simp [notLine, hc]), List.drop_succ_cons, ← ih]
      simp only [skip]
      rw [if_neg hc]
theorem skip_note {l : List UInt8} (h0 : isAt l 0 45 = true) (h1 : isAt l 1 45 = true) : skip false l = skip false (l.drop (span notLine l)) := by
  cases l with
  | nil => simp [isAt] at h0
  | cons c l =>
    have hc : c = 45 := by simpa [isAt] using h0
    subst hc
    have h1' : isAt l 0 45 = true := by simpa [isAt] using h1
    have e1 : skip false (45 :: l) = skip true l := by
      simp only [skip]
      rw [if_neg (by decide), if_pos ⟨by decide, h1'⟩]
    rw [e1, skip_line]
    simp only [span]
    rw [if_pos (by decide), List.drop_succ_cons]
theorem skip_stop {l : List UInt8} (hb : ∀ c, l[0]? = some c → blank c = false) (h : isAt l 0 45 = false ∨ isAt l 1 45 = false) : skip false l = l := by
  cases l with
  | nil => rfl
  | cons c l =>
    have := hb c rfl
    simp only [skip]
    rw [if_neg (by simp [this]), if_neg]
    rintro ⟨h1, h2⟩
    rcases h with h | h
    · simp [isAt] at h
      exact h (UInt8.toNat_inj.1 (by simpa using h1))
    · simp [isAt] at h h2
      exact h h2
/-- Where what is left begins. -/
def skipAt (l : List UInt8) (i : Nat) : Nat := l.length - (skip false (l.drop i)).length
theorem skipAt_eq {l : List UInt8} {i j : Nat} (h : skip false (l.drop i) = l.drop j) (hj : j ≤ l.length) : skipAt l i = j := by
  unfold skipAt
  rw [h, List.length_drop]
  omega
theorem isAt_drop (l : List UInt8) (i j : Nat) (c : UInt8) : isAt (l.drop i) j c = isAt l (i + j) c := by simp [isAt]
theorem skip_suffix : ∀ (l : List UInt8) (b : Bool), ∃ k, k ≤ l.length ∧ skip b l = l.drop k := by
  intro l
  induction l with
  | nil => intro b; exact ⟨0, by simp, by cases b <;> rfl⟩
  | cons c l ih =>
    intro b
    have step : ∀ b', ∃ k, k ≤ (c :: l).length ∧ skip b' l = (c :: l).drop k := by
      intro b'
      obtain ⟨k, h1, h2⟩ := ih b'
      exact ⟨k + 1, by simp; omega, by simpa using h2⟩
    cases b
    · simp only [skip]
      split
      · exact step false
      · split
        · exact step true
        · exact ⟨0, by simp, rfl⟩
    · simp only [skip]
      split
      · exact step false
      · exact step true
theorem skipAt_le (l : List UInt8) (i : Nat) (hi : i ≤ l.length) : i ≤ skipAt l i ∧ skipAt l i ≤ l.length ∧ skip false (l.drop i) = l.drop (skipAt l i) := by
  obtain ⟨k, h1, h2⟩ := skip_suffix (l.drop i) false
  rw [List.length_drop] at h1
  rw [List.drop_drop] at h2
  have := skipAt_eq (l := l) (i := i) (j := i + k) (by rw [h2]) (by omega)
  rw [this]
  exact ⟨by omega, by omega, h2⟩
end Go.Proofs.YtfoolkjamadfdaaDoor.Lex
