/-
  Plain: the order of values is total. Conditions: none.
-/
import Derived.Test.YticljmgcgjibpaaGreatDoorCmpD
namespace Go.Proofs.YticljmgcgjibpaaGreatDoor
open Go.RowKit

/-- What three comparisons in a row owe. -/
def Tri (x y z : Int) : Prop := (x ≤ 0 ∧ y ≤ 0 → z ≤ 0 ∧ (x < 0 ∨ y < 0 → z < 0)) ∧ (x = 0 ∧ y = 0 → z = 0)
theorem or3_is (a b c : Int) : (a ≠ 0 ∧ or3 a b c = a) ∨ (a = 0 ∧ b ≠ 0 ∧ or3 a b c = b) ∨ (a = 0 ∧ b = 0 ∧ or3 a b c = c) := by
  unfold or3
  by_cases h1 : a = 0
  · by_cases h2 : b = 0
    · exact .inr (.inr ⟨h1, h2, by rw [if_neg (by omega), if_neg (by omega)]⟩)
    · exact .inr (.inl ⟨h1, h2, by rw [if_neg (by omega), if_pos h2]⟩)
  · exact .inl ⟨h1, if_pos h1⟩
theorem tri_or3 {x1 x2 x3 y1 y2 y3 z1 z2 z3 : Int} (h1 : Tri x1 y1 z1) (h2 : Tri x2 y2 z2) (h3 : Tri x3 y3 z3) : Tri (or3 x1 x2 x3) (or3 y1 y2 y3) (or3 z1 z2 z3) := by
  unfold Tri at *
  have a := or3_is x1 x2 x3
  have b := or3_is y1 y2 y3
  have c := or3_is z1 z2 z3
  generalize or3 x1 x2 x3 = x at *
  generalize or3 y1 y2 y3 = y at *
  generalize or3 z1 z2 z3 = z at *
  rcases a with ⟨a1, rfl⟩ | ⟨a1, a2, rfl⟩ | ⟨a1, a2, rfl⟩ <;> rcases b with ⟨b1, rfl⟩ | ⟨b1, b2, rfl⟩ | ⟨b1, b2, rfl⟩ <;> rcases c with ⟨c1, rfl⟩ | ⟨c1, c2, rfl⟩ | ⟨c1, c2, rfl⟩ <;> omega
theorem cmpI_is (a b : Int) : (a < b ∧ cmpI a b = -1) ∨ (b < a ∧ cmpI a b = 1) ∨ (a = b ∧ cmpI a b = 0) := by
  unfold cmpI
  by_cases h1 : a < b
  · exact .inl ⟨h1, if_pos h1⟩
  · by_cases h2 : b < a
    · exact .inr (.inl ⟨h2, by rw [if_neg h1, if_pos h2]⟩)
    · exact .inr (.inr ⟨by omega, by rw [if_neg h1, if_neg h2]⟩)
theorem tri_cmpI (a b c : Int) : Tri (cmpI a b) (cmpI b c) (cmpI a c) := by
  have h1 := cmpI_is a b
  have h2 := cmpI_is b c
  have h3 := cmpI_is a c
  unfold Tri
  generalize cmpI a b = x at *
  generalize cmpI b c = y at *
  generalize cmpI a c = z at *
  omega
theorem cmpB_is (a b : UInt8) (l m : List UInt8) : (a.toNat < b.toNat ∧ cmpB (a :: l) (b :: m) = -1) ∨ (b.toNat < a.toNat ∧ cmpB (a :: l) (b :: m) = 1) ∨ (a.toNat = b.toNat ∧ cmpB (a :: l) (b :: m) = cmpB l m) := by
  simp only [cmpB, UInt8.lt_iff_toNat_lt]
  by_cases h1 : a.toNat < b.toNat
  · exact .inl ⟨h1, if_pos h1⟩
  · by_cases h2 : b.toNat < a.toNat
    · exact .inr (.inl ⟨h2, by rw [if_neg h1, if_pos h2]⟩)
    · exact .inr (.inr ⟨by omega, by rw [if_neg h1, if_neg h2]⟩)
theorem tri_cmpB : ∀ l m p : List UInt8, Tri (cmpB l m) (cmpB m p) (cmpB l p) := by
  intro l
  induction l with
  | nil =>
    intro m p
    cases m <;> cases p <;> simp [Tri, cmpB]
  | cons a l ih =>
    intro m p
    cases m with
    | nil => cases p <;> simp [Tri, cmpB]
    | cons b m =>
      cases p with
      | nil =>
        unfold Tri
        constructor
        · intro h; exact absurd h.2 (by simp [cmpB])
        · intro h; exact absurd h.2 (by simp [cmpB])
      | cons c p =>
        have hi := ih m p
        have h1 := cmpB_is a b l m
        have h2 := cmpB_is b c m p
        have h3 := cmpB_is a c l p
        unfold Tri at *
        generalize cmpB (a :: l) (b :: m) = x at *
        generalize cmpB (b :: m) (c :: p) = y at *
        generalize cmpB (a :: l) (c :: p) = z at *
        generalize cmpB l m = x' at *
        generalize cmpB m p = y' at *
        generalize cmpB l p = z' at *
        omega
theorem tri_ordV (a b c : Cell.Val) : Tri (ordV a b) (ordV b c) (ordV a c) := tri_or3 (tri_cmpI _ _ _) (tri_cmpI _ _ _) (tri_cmpB _ _ _)
theorem ordV_anti (a b : Cell.Val) : ordV b a = -ordV a b := by
  unfold ordV or3
  rw [← cmpI_neg (a.k.toNat : Int) (b.k.toNat : Int), ← cmpI_neg a.n b.n, cmpB_anti a.s.data.toList b.s.data.toList]
  by_cases h1 : cmpI (a.k.toNat : Int) (b.k.toNat : Int) = 0 <;> by_cases h2 : cmpI a.n b.n = 0 <;> simp [h1, h2]
theorem cmpI_range (a b : Int) : cmpI a b = -1 ∨ cmpI a b = 0 ∨ cmpI a b = 1 := by unfold cmpI; (repeat' split) <;> omega
theorem ordV_range (a b : Cell.Val) : ordV a b = -1 ∨ ordV a b = 0 ∨ ordV a b = 1 := by
  unfold ordV or3
  have h1 := cmpI_range (a.k.toNat : Int) (b.k.toNat : Int)
  have h2 := cmpI_range a.n b.n
  have h3 := cmpB_range a.s.data.toList b.s.data.toList
  (repeat' split) <;> assumption
theorem cmpI_zero (a b : Int) : cmpI a b = 0 ↔ a = b := by unfold cmpI; (repeat' split) <;> omega
theorem ordV_zero {a b : Cell.Val} (h : ordV a b = 0) : a = b := by
  unfold ordV or3 at h
  by_cases h1 : cmpI (a.k.toNat : Int) (b.k.toNat : Int) = 0
  · rw [if_neg (by omega)] at h
    by_cases h2 : cmpI a.n b.n = 0
    · rw [if_neg (by omega)] at h
      have e1 := (cmpI_zero _ _).1 h1
      exact Cell.Val.ext' (UInt8.toNat_inj.1 (by omega)) ((cmpI_zero _ _).1 h2) ((cmpB_zero _ _).1 h)
    · rw [if_pos h2] at h; exact absurd h h2
  · rw [if_pos h1] at h; exact absurd h h1
theorem ordV_self (a : Cell.Val) : ordV a a = 0 := by unfold ordV; rw [cmpI_eq, cmpI_eq, cmpB_self]; rfl
end Go.Proofs.YticljmgcgjibpaaGreatDoor
