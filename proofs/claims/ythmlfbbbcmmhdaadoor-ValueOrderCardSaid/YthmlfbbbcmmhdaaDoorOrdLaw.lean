/-
  Plain: the order of values is total, and goes with their differences. Conditions: none.
-/
import Derived.Test.YthmlfbbbcmmhdaaDoorLaw17
namespace Go.Proofs.YthmlfbbbcmmhdaaDoor
open Go.RowKit

/-- What three comparisons in a row owe. -/
def Tri (x y z : Int) : Prop := (x ≤ 0 ∧ y ≤ 0 → z ≤ 0 ∧ (x < 0 ∨ y < 0 → z < 0)) ∧ (x = 0 ∧ y = 0 → z = 0)
theorem or3_is (a b c : Int) : (a ≠ 0 ∧ or3 a b c = a) ∨ (a = 0 ∧ b ≠ 0 ∧ or3 a b c = b) ∨ (a = 0 ∧ b = 0 ∧ or3 a b c = c) := by
  unfold or3
  by_cases h1 : a = 0
  · by_cases h2 : b = 0
    · exact .inr (.inr ⟨h1, h2, by rw [if_neg (by omega), if_neg (by omega)]⟩)
    · exact .inr (.inl ⟨h1, h2, by rw [if_neg (by omega), if_pos h2]⟩)
  · exact .inl ⟨h1, if_pos h1⟩
theorem tri_or3 {x1 x2 x3 y1 y2 y3 z1 z2 z3 : Int} (h1 : Tri x1 y1 z1) (h2 : Tri x2 y2 z2) (h3 : Tri x3 y3 z3) : Tri (or3 x1 x2 x3) (or3 y1 y2 y3) (or3 z1 z2 z3) := by
  unfold Tri at *
  have a := or3_is x1 x2 x3
  have b := or3_is y1 y2 y3
  have c := or3_is z1 z2 z3
  generalize or3 x1 x2 x3 = x at *
  generalize or3 y1 y2 y3 = y at *
  generalize or3 z1 z2 z3 = z at *
  rcases a with ⟨a1, rfl⟩ | ⟨a1, a2, rfl⟩ | ⟨a1, a2, rfl⟩ <;> rcases b with ⟨b1, rfl⟩ | ⟨b1, b2, rfl⟩ | ⟨b1, b2, rfl⟩ <;> rcases c with ⟨c1, rfl⟩ | ⟨c1, c2, rfl⟩ | ⟨c1, c2, rfl⟩ <;> omega
theorem cmpI_is (a b : Int) : (a < b ∧ cmpI a b = -1) ∨ (b < a ∧ cmpI a b = 1) ∨ (a = b ∧ cmpI a b = 0) := by
  unfold cmpI
  by_cases h1 : a < b
  · exact .inl ⟨h1, if_pos h1⟩
  · by_cases h2 : b < a
    · exact .inr (.inl ⟨h2, by rw [if_neg h1, if_pos h2]⟩)
    · exact .inr (.inr ⟨by omega, by rw [if_neg h1, if_neg h2]⟩)
theorem tri_cmpI (a b c : Int) : Tri (cmpI a b) (cmpI b c) (cmpI a c) := by
  have h1 := cmpI_is a b
  have h2 := cmpI_is b c
  have h3 := cmpI_is a c
  unfold Tri
  generalize cmpI a b = x at *
  generalize cmpI b c = y at *
  generalize cmpI a c = z at *
  omega
theorem cmpB_is (a b : UInt8) (l m : List UInt8) : (a.toNat < b.toNat ∧ cmpB (a :: l) (b :: m) = -1) ∨ (b.toNat < a.toNat ∧ cmpB (a :: l) (b :: m) = 1) ∨ (a.toNat = b.toNat ∧ cmpB (a :: l) (b :: m) = cmpB l m) := by
  simp only [cmpB, UInt8.lt_iff_toNat_lt]
  by_cases h1 : a.toNat < b.toNat
  · exact .inl ⟨h1, if_pos h1⟩
  · by_cases h2 : b.toNat < a.toNat
    · exact .inr (.inl ⟨h2, by rw [if_neg h1, if_pos h2]⟩)
    · exact .inr (.inr ⟨by omega, by rw [if_neg h1, if_neg h2]⟩)
theorem tri_cmpB : ∀ l m p : List UInt8, Tri (cmpB l m) (cmpB m p) (cmpB l p) := by
  intro l
  induction l with
  | nil =>
    intro m p
    cases m <;> cases p <;> simp [Tri, cmpB]
  | cons a l ih =>
    intro m p
    cases m with
    | nil => cases p <;> simp [Tri, cmpB]
    | cons b m =>
      cases p with
      | nil =>
        unfold Tri
        constructor
        · intro h; exact absurd h.2 (by simp [cmpB])
        · intro h; exact absurd h.2 (by simp [cmpB])
      | cons c p =>
        have hi := ih m p
        have h1 := cmpB_is a b l m
        have h2 := cmpB_is b c m p
        have h3 := cmpB_is a c l p
        unfold Tri at *
        generalize cmpB (a :: l) (b :: m) = x at *
        generalize cmpB (b :: m) (c :: p) = y at *
        generalize cmpB (a :: l) (c :: p) = z at *
        generalize cmpB l m = x' at *
        generalize cmpB m p = y' at *
        generalize cmpB l p = z' at *
        omega
theorem tri_ordV (a b c : Cell.Val) : Tri (ordV a b) (ordV b c) (ordV a c) := tri_or3 (tri_cmpI _ _ _) (tri_cmpI _ _ _) (tri_cmpB _ _ _)
theorem ordV_anti (a b : Cell.Val) : ordV b a = -ordV a b := by
  unfold ordV or3
  rw [← cmpI_neg (a.k.toNat : Int) (b.k.toNat : Int), ← cmpI_neg a.n b.n, cmpB_anti a.s.data.toList b.s.data.toList]
  by_cases h1 : cmpI (a.k.toNat : Int) (b.k.toNat : Int) = 0 <;> by_cases h2 : cmpI a.n b.n = 0 <;> simp [h1, h2]
theorem cmpI_range (a b : Int) : cmpI a b = -1 ∨ cmpI a b = 0 ∨ cmpI a b = 1 := by unfold cmpI; (repeat' split) <;> omega
theorem ordV_range (a b : Cell.Val) : ordV a b = -1 ∨ ordV a b = 0 ∨ ordV a b = 1 := by
  unfold ordV or3
  have h1 := cmpI_range (a.k.toNat : Int) (b.k.toNat : Int)
  have h2 := cmpI_range a.n b.n
  have h3 := cmpB_range a.s.data.toList b.s.data.toList
  (repeat' split) <;> assumption
theorem cmpI_zero (a b : Int) : cmpI a b = 0 ↔ a = b := by unfold cmpI; (repeat' split) <;> omega
theorem ordV_zero {a b : Cell.Val} (h : ordV a b = 0) : a = b := by
  unfold ordV or3 at h
  by_cases h1 : cmpI (a.k.toNat : Int) (b.k.toNat : Int) = 0
  · rw [if_neg (by omega)] at h
    by_cases h2 : cmpI a.n b.n = 0
    · rw [if_neg (by omega)] at h
      have e1 := (cmpI_zero _ _).1 h1
      exact Cell.Val.ext' (UInt8.toNat_inj.1 (by omega)) ((cmpI_zero _ _).1 h2) ((cmpB_zero _ _).1 h)
    · rw [if_pos h2] at h; exact absurd h h2
  · rw [if_pos h1] at h; exact absurd h h1
theorem ordV_self (a : Cell.Val) : ordV a a = 0 := by unfold ordV; rw [cmpI_eq, cmpI_eq, cmpB_self]; rfl
namespace Val
theorem cmp_four (a b : Cell.Val) : (∀ op, 7 ≤ op → op ≤ 12 → compare op a b = (0, 2)) ∨ (∀ op, 7 ≤ op → op ≤ 12 → compare op a b = (2, 0)) ∨ (∀ op, 7 ≤ op → op ≤ 12 → compare op a b = (0, 270)) ∨
    (∀ op, 7 ≤ op → op ≤ 12 → compare op a b = (if holds (UInt8.ofNat op) (cmpV a b) = true then 1 else 0, 0)) := by
  by_cases hr : bothRight a b = false
  · exact .inl fun op _ _ => compare_right hr
  · have hr' : bothRight a b = true := by simpa using hr
    by_cases h0 : a.k.toNat = 0 ∨ b.k.toNat = 0
    · exact .inr (.inl fun op h1 h2 => compare_null h1 h2 hr' h0)
    · by_cases h1 : (numB a.k && numB b.k) = false ∧ a.k ≠ b.k
      · exact .inr (.inr (.inl fun op h2 h3 => compare_kind h2 h3 hr' h0 h1.1 h1.2))
      · refine .inr (.inr (.inr fun op h2 h3 => compare_go h2 h3 hr' h0 ?_))
        by_cases hk : a.k = b.k
        · exact .inr hk
        · refine .inl ?_
          cases hn : (numB a.k && numB b.k) with
          | true => rfl
          | false => exact absurd ⟨hn, hk⟩ h1
theorem cmp_err {a b : Cell.Val} : (compare 7 a b).2 = (compare 9 a b).2 ∧ (compare 8 a b).2 = (compare 9 a b).2 := by
  rcases cmp_four a b with h | h | h | h <;> rw [h 7 (by omega) (by omega), h 8 (by omega) (by omega), h 9 (by omega) (by omega)] <;> exact ⟨rfl, rfl⟩
theorem cmp_not {a b : Cell.Val} (h : (compare 9 a b).2 = 0) : (compare 8 a b).1 = Lg.not_ (compare 7 a b).1 := by
  rcases cmp_four a b with g | g | g | g
  · rw [g 9 (by omega) (by omega)] at h; cases h
  · rw [g 7 (by omega) (by omega), g 8 (by omega) (by omega)]; rfl
  · rw [g 9 (by omega) (by omega)] at h; cases h
  · rw [g 7 (by omega) (by omega), g 8 (by omega) (by omega)]
    have e7 : holds (UInt8.ofNat 7) (cmpV a b) = decide (cmpV a b = 0) := rfl
    have e8 : holds (UInt8.ofNat 8) (cmpV a b) = decide (cmpV a b ≠ 0) := rfl
    rw [e7, e8]
    by_cases hc : cmpV a b = 0
    · simp [hc]; rfl
    · simp [hc]; rfl
theorem sub_err {a b : Cell.Val} (h : (compare 9 a b).2 ≠ 0) : (sub a b).2 ≠ 0 := by
  unfold compare at h
  unfold sub
  by_cases hr : bothRight a b = false
  · have : asked a b = (false, 2) := by unfold asked; rw [if_pos hr]
    rw [this]
    simp
  · have hr' : bothRight a b = true := by simpa using hr
    rw [if_neg (by rw [hr']; simp)] at h
    by_cases h0 : a.k.toNat = 0 ∨ b.k.toNat = 0
    · rw [if_pos h0] at h; exact absurd rfl h
    · rw [if_neg h0] at h
      by_cases h1 : (numB a.k && numB b.k) = false ∧ a.k ≠ b.k
      · have : (asked a b) = (false, 270) := by
          unfold asked
          rw [if_neg hr, if_pos]
          unfold wrongKind
          have ha : a.k.toNat ≠ 0 := fun e => h0 (.inl e)
          have hb : b.k.toNat ≠ 0 := fun e => h0 (.inr e)
          have := h1.1
          rw [decide_eq_false ha, decide_eq_false hb]
          cases hx : numB a.k <;> cases hy : numB b.k <;> simp_all
        rw [this]
        simp
      · rw [if_neg h1] at h; exact absurd rfl h
theorem answer_is {K : UInt8} {x : Int} (h : (answer K x).2 = 0) : (answer K x).1.n = x := by
  unfold answer at h ⊢
  cases hf : fit x with
  | none => rw [hf] at h; cases h
  | some m =>
    unfold fit at hf
    split at hf
    · injection hf with hf; exact hf.symm
    · cases hf
theorem sub_sign {a b : Cell.Val} (h : (sub a b).2 = 0) (hk : (sub a b).1.k.toNat ≠ 0) : (compare 9 a b).2 = 0 ∧ (((compare 9 a b).1 : Int) == 1) = decide ((sub a b).1.n < 0) ∧ (((compare 7 a b).1 : Int) == 1) = ((sub a b).1.n == 0) := by
  unfold sub at h hk ⊢
  by_cases hc : (asked a b).2 ≠ 0 ∨ (asked a b).1 = true
  · rw [if_pos hc] at hk
    exact absurd rfl hk
  · rw [if_neg hc] at h hk ⊢
    have hz : (asked a b).2 = 0 := Decidable.byContradiction fun h => hc (.inl h)
    have hn : (asked a b).1 = false := by cases hq : (asked a b).1 with | false => rfl | true => exact absurd (.inr hq) hc
    obtain ⟨ha, hb⟩ := asked_ok hz hn
    have hr : bothRight a b = true := by
      unfold asked at hz
      split at hz
      · cases hz
      · rename_i hr; simpa using hr
    have hra : Cell.rightB a = true := by unfold bothRight at hr; simp at hr; exact hr.1
    have hrb : Cell.rightB b = true := by unfold bothRight at hr; simp at hr; exact hr.2
    have hnum : (numB a.k && numB b.k) = true := by unfold numB; rcases ha with ha | ha <;> rcases hb with hb | hb <;> simp [ha, hb]
    have e : ∀ {op : Nat}, 7 ≤ op → op ≤ 12 → compare op a b = (if holds (UInt8.ofNat op) (cmpV a b) = true then 1 else 0, 0) := fun h1 h2 => compare_go h1 h2 hr (by omega) (.inl hnum)
    have e7 : holds (UInt8.ofNat 7) (cmpV a b) = decide (cmpV a b = 0) := rfl
    have e9 : holds (UInt8.ofNat 9) (cmpV a b) = decide (cmpV a b < 0) := rfl
    rw [e (op := 9) (by omega) (by omega), e (op := 7) (by omega) (by omega), e7, e9]
    have key : ∀ x : Int, (x < 0 ↔ cmpV a b < 0) → (x = 0 ↔ cmpV a b = 0) → (((if decide (cmpV a b < 0) = true then 1 else 0 : Nat) : Int) == 1) = decide (x < 0) ∧ (((if decide (cmpV a b = 0) = true then 1 else 0 : Nat) : Int) == 1) = (x == 0) := by
      intro x h1 h2
      constructor
      · by_cases hx : x < 0
        · simp [hx, h1.1 hx]
        · have : ¬ cmpV a b < 0 := fun h => hx (h1.2 h)
          simp [hx, this]
      · by_cases hx : x = 0
        · simp [hx, h2.1 hx]
        · have : ¬ cmpV a b = 0 := fun h => hx (h2.2 h)
          simp [hx, this]
    have cmpd : ∀ x y : Int, (x - y < 0 ↔ cmpI x y < 0) ∧ (x - y = 0 ↔ cmpI x y = 0) := by
      intro x y
      unfold cmpI
      (repeat' split) <;> omega
    refine ⟨rfl, ?_⟩
    by_cases h22 : a.k.toNat = 2 ∧ b.k.toNat = 2
    · rw [if_pos h22] at h ⊢
      rw [answer_is h]
      have hk : a.k = b.k := UInt8.toNat_inj.1 (by omega)
      have hv : cmpV a b = cmpI a.n b.n := by
        unfold cmpV
        rw [if_pos hk]
        exact ordV_num hk (right_num (k := a.k) (n := a.n) (s := a.s) hra ha) (right_num (k := b.k) (n := b.n) (s := b.s) hrb hb)
      rw [hv] at key ⊢
      exact key _ (cmpd _ _).1 (cmpd _ _).2
    · rw [if_neg h22] at h ⊢
      rw [answer_is h]
      have hv : cmpV a b = cmpI (fixed a) (fixed b) := by
        unfold cmpV
        by_cases hk : a.k = b.k
        · rw [if_pos hk, ordV_num hk (right_num (k := a.k) (n := a.n) (s := a.s) hra ha) (right_num (k := b.k) (n := b.n) (s := b.s) hrb hb)]
          have hkn : a.k.toNat = b.k.toNat := by rw [hk]
          unfold fixed
          rw [if_neg (by omega), if_neg (by omega)]
        · rw [if_neg hk]
      rw [hv] at key ⊢
      exact key _ (cmpd _ _).1 (cmpd _ _).2
end Val
end Go.Proofs.YthmlfbbbcmmhdaaDoor
