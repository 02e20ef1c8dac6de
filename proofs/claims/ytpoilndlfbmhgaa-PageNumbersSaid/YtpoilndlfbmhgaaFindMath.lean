/-
  The plain mathematics of a sorted list of cells: where a key stands. Conditions: none. No program is named here.
-/
import Derived.Test.YtpoilndlfbmhgaaPageMath
namespace Go.Proofs.Ytpoilndlfbmhgaa

theorem cmpB_lt_trans : ∀ a b c : List UInt8, cmpB a b < 0 → cmpB b c < 0 → cmpB a c < 0 := by
  intro a
  induction a with
  | nil =>
    intro b c h1 h2
    cases b with
    | nil => simp [cmpB] at h1
    | cons y b => cases c with
      | nil => simp [cmpB] at h2
      | cons z c => simp [cmpB]
  | cons x a ih =>
    intro b c h1 h2
    cases b with
    | nil => simp [cmpB] at h1
    | cons y b => cases c with
      | nil => simp [cmpB] at h2
      | cons z c =>
        simp only [cmpB] at h1 h2 ⊢
        split at h1
        · rename_i hxy
          split at h2
          · rename_i hyz
            rw [if_pos (UInt8.lt_trans hxy hyz)]; omega
          · split at h2
            · omega
            · rename_i h3 h4
              have : y = z := UInt8.le_antisymm (UInt8.not_lt.1 h4) (UInt8.not_lt.1 h3)
              subst this
              rw [if_pos hxy]; omega
        · split at h1
          · omega
          · rename_i h3 h4
            have : x = y := UInt8.le_antisymm (UInt8.not_lt.1 h4) (UInt8.not_lt.1 h3)
            subst this
            split at h2
            · rename_i hyz
              rw [if_pos hyz]; omega
            · split at h2
              · omega
              · rename_i h5 h6
                rw [if_neg h5, if_neg h6]
                exact ih b c h1 h2
namespace Pag
def geB (key : List UInt8) (c : Ce) : Bool := decide (0 ≤ cmpB c.1 key)
def gtB (key : List UInt8) (c : Ce) : Bool := decide (0 < cmpB c.1 key)
def findN (cs : List Ce) (key : List UInt8) : Nat := cs.findIdx (geB key)
def belowN (cs : List Ce) (key : List UInt8) : Nat := cs.findIdx (gtB key)
/-- Whether the key is there. -/
def hasB (cs : List Ce) (key : List UInt8) : Bool := match cs[findN cs key]? with
  | some c => c.1 == key
  | none => false
theorem findIdx_of {p : Ce → Bool} : ∀ (cs : List Ce) (i : Nat), i ≤ cs.length → (∀ j c, j < i → cs[j]? = some c → p c = false) → (∀ c, cs[i]? = some c → p c = true) → cs.findIdx p = i := by
  intro cs
  induction cs with
  | nil => intro i hi _ _; simp at hi; subst hi; rfl
  | cons d cs ih =>
    intro i hi h1 h2
    cases i with
    | zero => rw [List.findIdx_cons, h2 d rfl]; rfl
    | succ i =>
      rw [List.findIdx_cons, h1 0 d (by omega) rfl]
      simp only [cond_false]
      rw [ih i (by simpa using hi) (fun j c hj hc => h1 (j + 1) c (by omega) (by simpa using hc)) (fun c hc => h2 c (by simpa using hc))]
theorem rise_pair : ∀ (cs : List Ce), riseB cs = true → ∀ (i j : Nat) (c d : Ce), i < j → cs[i]? = some c → cs[j]? = some d → cmpB c.1 d.1 < 0 := by
  intro cs
  induction cs with
  | nil => intro _ i j c d _ h; simp at h
  | cons e cs ih =>
    intro hr i j c d hij hc hd
    cases cs with
    | nil =>
      cases j with
      | zero => omega
      | succ j => simp at hd
    | cons f cs =>
      simp only [riseB, Bool.and_eq_true, decide_eq_true_eq] at hr
      cases j with
      | zero => omega
      | succ j =>
        cases i with
        | zero =>
          simp at hc
          subst hc
          cases j with
          | zero => simp at hd; subst hd; exact hr.1.2
          | succ j => exact cmpB_lt_trans _ _ _ hr.1.2 (ih hr.2 0 (j + 1) f d (by omega) rfl (by simpa using hd))
        | succ i => exact ih hr.2 i j c d (by omega) (by simpa using hc) (by simpa using hd)
theorem ge_mono {cs : List Ce} (h : riseB cs = true) (key : List UInt8) {i j : Nat} {c d : Ce} (hij : i ≤ j) (hc : cs[i]? = some c) (hd : cs[j]? = some d) (hg : geB key c = true) : geB key d = true := by
  rcases Nat.lt_or_ge i j with h1 | h1
  · have h2 := rise_pair cs h i j c d h1 hc hd
    unfold geB at hg ⊢
    simp only [decide_eq_true_eq] at hg ⊢
    rcases cmpB_range d.1 key with h3 | h3 | h3
    · have h4 := cmpB_lt_trans c.1 d.1 key h2 (by omega)
      omega
    · omega
    · omega
  · have : i = j := by omega
    subst this
    rw [hc] at hd
    injection hd with hd
    subst hd
    exact hg
theorem findN_le (cs : List Ce) (key : List UInt8) : findN cs key ≤ cs.length := List.findIdx_le_length
end Pag
end Go.Proofs.Ytpoilndlfbmhgaa
