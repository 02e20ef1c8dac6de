/-
  Plain: how bytes are cut into frames; that cutting goes on behind what is left. Conditions: none. No program is named here.
-/
import Derived.Laws.BitsAllLaws
import Derived.IntWalk
namespace Go.Proofs.Ytnieenlnpnaamaa.Wire

/-- The number that the first four bytes say. -/
def be4 (b : List UInt8) : Nat := (b.getD 0 0).toNat * 16777216 + (b.getD 1 0).toNat * 65536 + (b.getD 2 0).toNat * 256 + (b.getD 3 0).toNat
def kindOk (k : UInt8) : Bool := decide (1 ≤ k.toNat) && decide (k.toNat ≤ 9)
/-- How many bytes the first frame has (0: it is not whole); none: these bytes may not be. -/
def firstN (b : List UInt8) : Option Nat :=
  if b.length < 4 then some 0 else
  if be4 b < 1 ∨ 8192 < be4 b then none else
  if b.length < 5 then some 0 else
  if kindOk (b.getD 4 0) = false then none else
  if b.length < 4 + be4 b then some 0 else some (4 + be4 b)
def frame (b : List UInt8) : UInt8 × List UInt8 := (b.getD 4 0, (b.drop 5).take (be4 b - 1))
def cutF : Nat → List UInt8 → List (UInt8 × List UInt8) × List UInt8 × Bool
  | 0, b => ([], b, false)
  | f + 1, b => match firstN b with
    | none => ([], [], true)
    | some 0 => ([], b, false)
    | some (m + 1) => (frame b :: (cutF f (b.drop (m + 1))).1, (cutF f (b.drop (m + 1))).2)
def cut (b : List UInt8) : List (UInt8 × List UInt8) × List UInt8 × Bool := cutF b.length b

theorem firstN_some (b : List UInt8) (m : Nat) (h : firstN b = some (m + 1)) : m + 1 = 4 + be4 b ∧ 1 ≤ be4 b ∧ be4 b ≤ 8192 ∧ 4 + be4 b ≤ b.length ∧ kindOk (b.getD 4 0) = true := by
  unfold firstN at h
  by_cases h1 : b.length < 4
  · rw [if_pos h1] at h; injection h with h; omega
  · rw [if_neg h1] at h
    by_cases h2 : be4 b < 1 ∨ 8192 < be4 b
    · rw [if_pos h2] at h; cases h
    · rw [if_neg h2] at h
      by_cases h3 : b.length < 5
      · rw [if_pos h3] at h; injection h with h; omega
      · rw [if_neg h3] at h
        by_cases h4 : kindOk (b.getD 4 0) = false
        · rw [if_pos h4] at h; cases h
        · rw [if_neg h4] at h
          by_cases h5 : b.length < 4 + be4 b
          · rw [if_pos h5] at h; injection h with h; omega
          · rw [if_neg h5] at h; injection h with h
            exact ⟨h.symm, by omega, by omega, by omega, by simpa using h4⟩
theorem cutF_fuel : ∀ (f : Nat) (b : List UInt8), b.length ≤ f → cutF f b = cut b := by
  have key : ∀ (n f g : Nat) (b : List UInt8), b.length ≤ n → b.length ≤ f → b.length ≤ g → cutF f b = cutF g b := by
    intro n
    induction n with
    | zero =>
      intro f g b hn _ _
      have : b = [] := List.eq_nil_of_length_eq_zero (by omega)
      subst this
      have h0 : firstN [] = some 0 := rfl
      cases f <;> cases g <;> simp [cutF, h0]
    | succ n ih =>
      intro f g b hn hf hg
      cases hb : firstN b with
      | none =>
        have hl : 0 < b.length := by
          rcases Nat.eq_zero_or_pos b.length with h | h
          · have : b = [] := List.eq_nil_of_length_eq_zero h
            subst this
            cases hb
          · exact h
        cases f with
        | zero => omega
        | succ f => cases g with
          | zero => omega
          | succ g => simp [cutF, hb]
      | some m =>
        cases m with
        | zero => cases f <;> cases g <;> simp [cutF, hb]
        | succ m =>
          obtain ⟨h1, h2, h3, h4, _⟩ := firstN_some b m hb
          cases f with
          | zero => omega
          | succ f => cases g with
            | zero => omega
            | succ g =>
              have := ih f g (b.drop (m + 1)) (by simp; omega) (by simp; omega) (by simp; omega)
              simp only [cutF, hb, this]
  intro f b h
  exact key b.length f b.length b (Nat.le_refl _) h (Nat.le_refl _)
theorem cut_none {b : List UInt8} (h : firstN b = none) : cut b = ([], [], true) := by
  have : b.length ≤ b.length + 1 := by omega
  rw [← cutF_fuel _ _ this]
  simp [cutF, h]
theorem cut_wait {b : List UInt8} (h : firstN b = some 0) : cut b = ([], b, false) := by
  have : b.length ≤ b.length + 1 := by omega
  rw [← cutF_fuel _ _ this]
  simp [cutF, h]
theorem cut_more {b : List UInt8} {m : Nat} (h : firstN b = some (m + 1)) : cut b = (frame b :: (cut (b.drop (m + 1))).1, (cut (b.drop (m + 1))).2) := by
  have h1 : b.length ≤ b.length + 1 := by omega
  rw [← cutF_fuel _ _ h1]
  have h2 : cutF b.length (b.drop (m + 1)) = cut (b.drop (m + 1)) := cutF_fuel _ _ (by simp)
  simp only [cutF, h, h2]

theorem getD_append (x y : List UInt8) (k : Nat) (h : k < x.length) : (x ++ y).getD k 0 = x.getD k 0 := by
  simp [List.getD, List.getElem?_append_left h]
theorem be4_append (x y : List UInt8) (h : 4 ≤ x.length) : be4 (x ++ y) = be4 x := by
  unfold be4
  rw [getD_append x y 0 (by omega), getD_append x y 1 (by omega), getD_append x y 2 (by omega), getD_append x y 3 (by omega)]
theorem firstN_none_append (x y : List UInt8) (h : firstN x = none) : firstN (x ++ y) = none := by
  unfold firstN at h ⊢
  by_cases h1 : x.length < 4
  · rw [if_pos h1] at h; cases h
  · rw [if_neg h1] at h
    rw [if_neg (by simp; omega), be4_append x y (by omega)]
    by_cases h2 : be4 x < 1 ∨ 8192 < be4 x
    · rw [if_pos h2]
    · rw [if_neg h2] at h ⊢
      by_cases h3 : x.length < 5
      · rw [if_pos h3] at h; cases h
      · rw [if_neg h3] at h
        rw [if_neg (by simp; omega), getD_append x y 4 (by omega)]
        by_cases h4 : kindOk (x.getD 4 0) = false
        · rw [if_pos h4]
        · rw [if_neg h4] at h
          by_cases h5 : x.length < 4 + be4 x
          · rw [if_pos h5] at h; cases h
          · rw [if_neg h5] at h; cases h
theorem firstN_some_append (x y : List UInt8) (m : Nat) (h : firstN x = some (m + 1)) : firstN (x ++ y) = some (m + 1) ∧ frame (x ++ y) = frame x ∧ (x ++ y).drop (m + 1) = x.drop (m + 1) ++ y := by
  obtain ⟨h1, h2, h3, h4, h5⟩ := firstN_some x m h
  have e := be4_append x y (by omega)
  have e4 := getD_append x y 4 (by omega)
  refine ⟨?_, ?_, ?_⟩
  · unfold firstN
    rw [if_neg (by simp; omega), e, if_neg (by omega), if_neg (by simp; omega), e4, if_neg (by rw [h5]; decide), if_neg (by simp; omega), h1]
  · unfold frame
    rw [e, e4, List.drop_append_of_le_length (by omega), List.take_append_of_le_length (by simp; omega)]
  · rw [List.drop_append_of_le_length (by omega)]
/-- Cutting goes on behind what is left. -/
theorem cut_append : ∀ (n : Nat) (x y : List UInt8), x.length ≤ n → cut (x ++ y) = if (cut x).2.2 = true then cut x else ((cut x).1 ++ (cut ((cut x).2.1 ++ y)).1, (cut ((cut x).2.1 ++ y)).2) := by
  intro n
  induction n with
  | zero =>
    intro x y h
    have : x = [] := List.eq_nil_of_length_eq_zero (by omega)
    subst this
    have h0 : cut [] = ([], [], false) := rfl
    simp [h0]
  | succ n ih =>
    intro x y h
    cases hx : firstN x with
    | none =>
      rw [cut_none hx, cut_none (firstN_none_append x y hx)]
      simp
    | some m =>
      cases m with
      | zero => rw [cut_wait hx]; simp
      | succ m =>
        obtain ⟨h1, h2, h3⟩ := firstN_some_append x y m hx
        obtain ⟨g1, g2, g3, g4, _⟩ := firstN_some x m hx
        have := ih (x.drop (m + 1)) y (by simp; omega)
        rw [cut_more h1, cut_more hx, h2, h3, this]
        by_cases hb : (cut (x.drop (m + 1))).2.2 = true
        · simp [hb]
        · simp [hb]
theorem cut_left_len : ∀ (n : Nat) (x : List UInt8), x.length ≤ n → (cut x).2.1.length ≤ x.length ∧ (cut x).2.1.length < 8196 ∧ 5 * (cut x).1.length ≤ x.length := by
  intro n
  induction n with
  | zero =>
    intro x h
    have : x = [] := List.eq_nil_of_length_eq_zero (by omega)
    subst this
    have h0 : cut [] = ([], [], false) := rfl
    simp [h0]
  | succ n ih =>
    intro x h
    cases hx : firstN x with
    | none => rw [cut_none hx]; simp
    | some m =>
      cases m with
      | zero =>
        rw [cut_wait hx]
        refine ⟨Nat.le_refl _, ?_, by simp⟩
        show x.length < 8196
        unfold firstN at hx
        by_cases h1 : x.length < 4
        · omega
        · rw [if_neg h1] at hx
          by_cases h2 : be4 x < 1 ∨ 8192 < be4 x
          · rw [if_pos h2] at hx; cases hx
          · rw [if_neg h2] at hx
            by_cases h3 : x.length < 5
            · omega
            · rw [if_neg h3] at hx
              by_cases h4 : kindOk (x.getD 4 0) = false
              · rw [if_pos h4] at hx; cases hx
              · rw [if_neg h4] at hx
                by_cases h5 : x.length < 4 + be4 x
                · omega
                · rw [if_neg h5] at hx; injection hx with hx; omega
      | succ m =>
        obtain ⟨g1, g2, g3, g4, _⟩ := firstN_some x m hx
        have := ih (x.drop (m + 1)) (by simp; omega)
        rw [cut_more hx]
        simp only [List.length_drop, List.length_cons] at this ⊢
        omega
end Go.Proofs.Ytnieenlnpnaamaa.Wire
