/-
  Plain: bytes in order, a key's text, a version key, its parts; that version keys stand in the order of their keys, the newest first. Conditions: none. No program is named here.
-/
import Derived.Laws.BitsAllLaws
import Derived.IntWalk
namespace Go.Proofs.YticljmgcgjibpaaGreatDoor

/-- Bytes in order: -1, 0, 1. -/
def cmpB : List UInt8 → List UInt8 → Int
  | [], [] => 0
  | [], _ :: _ => -1
  | _ :: _, [] => 1
  | a :: l, b :: m => if a < b then -1 else if b < a then 1 else cmpB l m

theorem cmpB_cons (c : UInt8) (l m : List UInt8) : cmpB (c :: l) (c :: m) = cmpB l m := by simp [cmpB]
theorem cmpB_append (p : List UInt8) : ∀ l m, cmpB (p ++ l) (p ++ m) = cmpB l m := by
  induction p with
  | nil => intro l m; rfl
  | cons c p ih => intro l m; rw [List.cons_append, List.cons_append, cmpB_cons, ih]
theorem cmpB_self (l : List UInt8) : cmpB l l = 0 := by
  induction l with
  | nil => rfl
  | cons c l ih => rw [cmpB_cons, ih]
theorem cmpB_zero : ∀ l m, cmpB l m = 0 ↔ l = m := by
  intro l
  induction l with
  | nil => intro m; cases m <;> simp [cmpB]
  | cons c l ih =>
    intro m
    cases m with
    | nil => simp [cmpB]
    | cons d m =>
      simp only [cmpB]
      by_cases h1 : c < d
      · simp [h1]; intro h; subst h; exact absurd h1 (by simp)
      · by_cases h2 : d < c
        · simp [h1, h2]; intro h; subst h; exact absurd h2 (by simp)
        · have : c = d := by apply UInt8.toNat_inj.1; simp [UInt8.lt_iff_toNat_lt] at h1 h2; omega
          subst this
          simp [ih]
theorem cmpB_range : ∀ l m, cmpB l m = -1 ∨ cmpB l m = 0 ∨ cmpB l m = 1 := by
  intro l
  induction l with
  | nil => intro m; cases m <;> simp [cmpB]
  | cons c l ih =>
    intro m
    cases m with
    | nil => simp [cmpB]
    | cons d m =>
      simp only [cmpB]
      split
      · simp
      · split
        · simp
        · exact ih m
theorem cmpB_anti : ∀ l m, cmpB m l = - cmpB l m := by
  intro l
  induction l with
  | nil => intro m; cases m <;> simp [cmpB]
  | cons c l ih =>
    intro m
    cases m with
    | nil => simp [cmpB]
    | cons d m =>
      simp only [cmpB]
      by_cases h1 : c < d
      · have : ¬ d < c := by simp [UInt8.lt_iff_toNat_lt] at *; omega
        simp [h1, this]
      · by_cases h2 : d < c
        · simp [h1, h2]
        · simp [h1, h2, ih]

/-! ### Version keys -/
def esc : List UInt8 → List UInt8
  | [] => []
  | c :: l => if c = 0 then 0 :: 255 :: esc l else c :: esc l
def vtext (key : List UInt8) (last : UInt8) : List UInt8 := esc key ++ [0, last]
/-- k bytes of v, the highest first. -/
def be : Nat → Nat → List UInt8
  | 0, _ => []
  | k + 1, v => UInt8.ofNat (v / 256 ^ k) :: be k (v % 256 ^ k)
def vjoin (key : List UInt8) (n : Nat) : List UInt8 := vtext key 0 ++ be 8 (18446744073709551615 - n)

theorem esc_append (a b : List UInt8) : esc (a ++ b) = esc a ++ esc b := by
  induction a with
  | nil => rfl
  | cons c a ih => simp only [List.cons_append, esc]; split <;> simp [ih]
theorem esc_len (a : List UInt8) : a.length ≤ (esc a).length ∧ (esc a).length ≤ 2 * a.length := by
  induction a with
  | nil => simp [esc]
  | cons c a ih => simp only [esc]; split <;> simp <;> omega
theorem be_len (k : Nat) : ∀ v, (be k v).length = k := by
  induction k with
  | zero => intro v; rfl
  | succ k ih => intro v; simp [be, ih]
theorem vjoin_len (key : List UInt8) (n : Nat) : (vjoin key n).length = (esc key).length + 10 := by simp [vjoin, vtext, be_len]

theorem cmp_esc : ∀ (a b : List UInt8) (e f : UInt8) (x y : List UInt8), e < 255 → f < 255 → a ≠ b → cmpB (esc a ++ 0 :: e :: x) (esc b ++ 0 :: f :: y) = cmpB a b := by
  intro a
  induction a with
  | nil =>
    intro b e f x y he hf hne
    cases b with
    | nil => exact absurd rfl hne
    | cons d b =>
      simp only [esc, List.nil_append]
      by_cases hd : d = 0
      · subst hd
        simp [cmpB, he]
      · have : (0 : UInt8) < d := by
          simp only [UInt8.lt_iff_toNat_lt]
          rcases Nat.eq_zero_or_pos d.toNat with h | h
          · exact absurd (UInt8.toNat_inj.1 (by simpa using h)) hd
          · simpa using h
        simp [cmpB, hd, this]
  | cons c a ih =>
    intro b e f x y he hf hne
    cases b with
    | nil =>
      simp only [esc, List.nil_append]
      by_cases hc : c = 0
      · subst hc
        have : ¬ (255 : UInt8) < f := by simp [UInt8.lt_iff_toNat_lt] at *; omega
        simp [cmpB, hf, this]
      · have h0 : (0 : UInt8) < c := by
          simp only [UInt8.lt_iff_toNat_lt]
          rcases Nat.eq_zero_or_pos c.toNat with h | h
          · exact absurd (UInt8.toNat_inj.1 (by simpa using h)) hc
          · simpa using h
        have : ¬ c < 0 := by simp [UInt8.lt_iff_toNat_lt]
        simp [cmpB, hc, h0, this]
    | cons d b =>
      by_cases hcd : c = d
      · subst hcd
        have hab : a ≠ b := fun h => hne (by rw [h])
        by_cases hc : c = 0
        · subst hc
          simp only [esc, if_true, List.cons_append, cmpB_cons]
          exact ih b e f x y he hf hab
        · simp only [esc, hc, if_false, List.cons_append, cmpB_cons]
          exact ih b e f x y he hf hab
      · have hx : ∀ u : UInt8, ¬ u = 0 → 0 < u := fun u hu => by
          simp only [UInt8.lt_iff_toNat_lt]
          rcases Nat.eq_zero_or_pos u.toNat with h | h
          · exact absurd (UInt8.toNat_inj.1 (by simpa using h)) hu
          · simpa using h
        by_cases hc : c = 0
        · subst hc
          have hd : ¬ d = 0 := fun h => hcd h.symm
          simp [esc, cmpB, hd, hx d hd]
        · by_cases hd : d = 0
          · subst hd
            have : ¬ c < 0 := by simp [UInt8.lt_iff_toNat_lt]
            simp [esc, cmpB, hc, hx c hc, this]
          · simp only [esc, hc, hd, if_false, List.cons_append, cmpB]
            by_cases h1 : c < d
            · simp [h1]
            · by_cases h2 : d < c
              · simp [h1, h2]
              · exact absurd (by apply UInt8.toNat_inj.1; simp [UInt8.lt_iff_toNat_lt] at h1 h2; omega) hcd

theorem cmp_be (k : Nat) : ∀ u v, u < 256 ^ k → v < 256 ^ k → cmpB (be k u) (be k v) = if u < v then -1 else if v < u then 1 else 0 := by
  induction k with
  | zero => intro u v hu hv; simp at hu hv; subst hu hv; simp [be, cmpB]
  | succ k ih =>
    intro u v hu hv
    have hp : 0 < 256 ^ k := Nat.pow_pos (by omega)
    have h1 : u / 256 ^ k < 256 := Nat.div_lt_of_lt_mul (by rw [Nat.pow_succ] at hu; exact hu)
    have h2 : v / 256 ^ k < 256 := Nat.div_lt_of_lt_mul (by rw [Nat.pow_succ] at hv; exact hv)
    have e1 := Nat.div_add_mod u (256 ^ k)
    have e2 := Nat.div_add_mod v (256 ^ k)
    have m1 := Nat.mod_lt u hp
    have m2 := Nat.mod_lt v hp
    have hi := ih (u % 256 ^ k) (v % 256 ^ k) m1 m2
    simp only [be, cmpB]
    have l1 : (UInt8.ofNat (u / 256 ^ k) < UInt8.ofNat (v / 256 ^ k)) ↔ u / 256 ^ k < v / 256 ^ k := by
      rw [UInt8.lt_iff_toNat_lt, UInt8.toNat_ofNat_of_lt' (by exact h1), UInt8.toNat_ofNat_of_lt' (by exact h2)]
    have l2 : (UInt8.ofNat (v / 256 ^ k) < UInt8.ofNat (u / 256 ^ k)) ↔ v / 256 ^ k < u / 256 ^ k := by
      rw [UInt8.lt_iff_toNat_lt, UInt8.toNat_ofNat_of_lt' (by exact h2), UInt8.toNat_ofNat_of_lt' (by exact h1)]
    simp only [l1, l2, hi]
    generalize 256 ^ k = p at *
    generalize u / p = q1 at *
    generalize v / p = q2 at *
    rcases Nat.lt_trichotomy q1 q2 with h | h | h
    · have : p * (q1 + 1) ≤ p * q2 := Nat.mul_le_mul_left p h
      rw [Nat.mul_add] at this
      have h3 : u < v := by omega
      simp [h, h3]
    · subst h
      simp only [Nat.lt_irrefl, if_false]
      have hh : (u % p < v % p) ↔ u < v := by omega
      have hg : (v % p < u % p) ↔ v < u := by omega
      simp only [hh, hg]
    · have : p * (q2 + 1) ≤ p * q1 := Nat.mul_le_mul_left p h
      rw [Nat.mul_add] at this
      have h3 : v < u := by omega
      have h4 : ¬ u < v := by omega
      have h5 : ¬ q1 < q2 := by omega
      simp [h, h3, h4, h5]

/-- Version keys stand in the order of their keys, of one key the newest first. -/
theorem cmp_vjoin (a b : List UInt8) (m n : Nat) (hm : m ≤ 4611686018427387904) (hn : n ≤ 4611686018427387904) :
    cmpB (vjoin a m) (vjoin b n) = if a = b then (if n < m then -1 else if m < n then 1 else 0) else cmpB a b := by
  unfold vjoin vtext
  by_cases h : a = b
  · subst h
    rw [cmpB_append, cmp_be 8 _ _ (by omega) (by omega), if_pos rfl]
    by_cases h1 : n < m
    · rw [if_pos (by omega), if_pos h1]
    · by_cases h2 : m < n
      · rw [if_neg (by omega), if_pos (by omega), if_neg h1, if_pos h2]
      · rw [if_neg (by omega), if_neg (by omega), if_neg h1, if_neg h2]
  · rw [if_neg h]
    simp only [List.append_assoc, List.cons_append, List.nil_append]
    exact cmp_esc a b 0 0 _ _ (by decide) (by decide) h
theorem cmp_first (a b : List UInt8) (n : Nat) : (cmpB (vtext a 0) (vjoin b n) ≤ 0) ↔ cmpB a b ≤ 0 := by
  unfold vjoin vtext
  by_cases h : a = b
  · subst h
    have : cmpB (esc a ++ [0, 0]) (esc a ++ [0, 0] ++ be 8 (18446744073709551615 - n)) = -1 := by
      have := cmpB_append (esc a ++ [0, 0]) [] (be 8 (18446744073709551615 - n))
      rw [List.append_nil] at this
      rw [this]
      rfl
    rw [this, cmpB_self]
    decide
  · have := cmp_esc a b 0 0 [] (be 8 (18446744073709551615 - n)) (by decide) (by decide) h
    simp only [List.append_assoc, List.cons_append, List.nil_append]
    rw [this]
theorem cmp_behind (a b : List UInt8) (n : Nat) : (cmpB (vjoin b n) (vtext a 1) < 0) ↔ cmpB b a ≤ 0 := by
  unfold vjoin vtext
  by_cases h : b = a
  · subst h
    have : cmpB (esc b ++ [0, 0] ++ be 8 (18446744073709551615 - n)) (esc b ++ [0, 1]) = -1 := by
      rw [List.append_assoc, cmpB_append]
      rfl
    rw [this, cmpB_self]
    decide
  · have := cmp_esc b a 0 1 (be 8 (18446744073709551615 - n)) [] (by decide) (by decide) h
    simp only [List.append_assoc, List.cons_append, List.nil_append]
    rw [this]
    have h0 : cmpB b a ≠ 0 := fun e => h ((cmpB_zero b a).1 e)
    have := cmpB_range b a
    omega

/-! ### The parts of a version key -/
def dec : List UInt8 → List UInt8
  | [] => []
  | [c] => [c]
  | c :: d :: l => if c = 0 then c :: dec l else c :: dec (d :: l)
/-- The number that bytes say, the lowest first; the highest first. -/
def le : List UInt8 → Nat
  | [] => 0
  | c :: l => c.toNat + 256 * le l
def beVal (l : List UInt8) : Nat := l.foldl (fun a c => 256 * a + c.toNat) 0
def vmay (k : List UInt8) (n : Nat) : Bool := 1 ≤ k.length && k.length ≤ 128 && n ≤ 4611686018427387904
def vpart (l : List UInt8) : Option (List UInt8 × Nat) :=
  if l.length < 10 then none else
  if vmay (dec (l.take (l.length - 10))) (18446744073709551615 - beVal (l.drop (l.length - 8))) && vjoin (dec (l.take (l.length - 10))) (18446744073709551615 - beVal (l.drop (l.length - 8))) == l then
    some (dec (l.take (l.length - 10)), 18446744073709551615 - beVal (l.drop (l.length - 8))) else none

theorem dec_esc : ∀ k, dec (esc k) = k := by
  intro k
  induction k with
  | nil => rfl
  | cons c k ih =>
    simp only [esc]
    by_cases hc : c = 0
    · subst hc; simp [dec, ih]
    · rw [if_neg hc]
      cases hk : esc k with
      | nil => rw [hk] at ih; simp [dec] at ih; subst ih; rfl
      | cons d l => rw [dec, if_neg hc, ← hk, ih]
theorem dec_esc0 : ∀ k, dec (esc k ++ [0, 0]) = k ++ [0] := by
  intro k
  induction k with
  | nil => rfl
  | cons c k ih =>
    simp only [esc]
    by_cases hc : c = 0
    · subst hc; simp [dec, ih]
    · rw [if_neg hc, List.cons_append]
      cases hk : esc k ++ [0, 0] with
      | nil => simp at hk
      | cons d l => rw [dec, if_neg hc, ← hk, ih]; rfl
theorem beVal_be (k : Nat) : ∀ v a, v < 256 ^ k → (be k v).foldl (fun a c => 256 * a + c.toNat) a = a * 256 ^ k + v := by
  induction k with
  | zero => intro v a h; simp at h; subst h; simp [be]
  | succ k ih =>
    intro v a h
    have hp : 0 < 256 ^ k := Nat.pow_pos (by omega)
    have h1 : v / 256 ^ k < 256 := Nat.div_lt_of_lt_mul (by rw [Nat.pow_succ] at h; exact h)
    rw [be, List.foldl_cons, ih _ _ (Nat.mod_lt _ hp), UInt8.toNat_ofNat_of_lt' (by exact h1)]
    have e1 := Nat.div_add_mod v (256 ^ k)
    rw [Nat.pow_succ, Nat.add_mul]
    generalize 256 ^ k = p at *
    have : 256 * a * p = a * (p * 256) := by rw [Nat.mul_comm 256 a, Nat.mul_assoc, Nat.mul_comm 256 p]
    rw [this, Nat.mul_comm (v / p) p]
    omega
theorem vpart_some (l k : List UInt8) (n : Nat) : vpart l = some (k, n) ↔ vmay k n = true ∧ vjoin k n = l := by
  constructor
  · intro h
    unfold vpart at h
    split at h
    · cases h
    · split at h
      · rename_i h2
        injection h with h
        injection h with e1 e2
        rw [e1, e2] at h2
        simpa using h2
      · cases h
  · rintro ⟨h1, rfl⟩
    have hn : n ≤ 4611686018427387904 := by simp [vmay] at h1; omega
    have hl := vjoin_len k n
    have e1 : (vjoin k n).take ((vjoin k n).length - 10) = esc k := by
      rw [hl, vjoin, vtext, Nat.add_sub_cancel, List.append_assoc, List.take_left]
    have e2 : (vjoin k n).drop ((vjoin k n).length - 8) = be 8 (18446744073709551615 - n) := by
      rw [hl, vjoin, List.drop_left' (by simp [vtext])]
    have e3 : 18446744073709551615 - beVal (be 8 (18446744073709551615 - n)) = n := by
      rw [beVal, beVal_be 8 _ 0 (by omega)]
      omega
    unfold vpart
    rw [if_neg (by omega), e1, e2, e3, dec_esc]
    simp [h1]
theorem vpart_none (l : List UInt8) (h : ∀ k n, vmay k n = true → vjoin k n ≠ l) : vpart l = none := by
  cases hv : vpart l with
  | none => rfl
  | some x =>
    obtain ⟨k, n⟩ := x
    have := (vpart_some l k n).1 hv
    exact absurd this.2 (h k n this.1)
/-- What the program's way of reading finds of a version key. -/
theorem vread (k : List UInt8) (n : Nat) (hn : n ≤ 4611686018427387904) : dec ((vjoin k n).take ((vjoin k n).length - 8)) = k ++ [0] ∧ beVal ((vjoin k n).drop ((vjoin k n).length - 8)) = 18446744073709551615 - n := by
  have hl := vjoin_len k n
  have e1 : (vjoin k n).take ((vjoin k n).length - 8) = esc k ++ [0, 0] := by
    rw [hl, vjoin, List.take_left' (by simp [vtext])]
    rfl
  have e2 : (vjoin k n).drop ((vjoin k n).length - 8) = be 8 (18446744073709551615 - n) := by
    rw [hl, vjoin, List.drop_left' (by simp [vtext])]
  rw [e1, e2, dec_esc0, beVal, beVal_be 8 _ 0 (by omega)]
  exact ⟨rfl, by omega⟩
end Go.Proofs.YticljmgcgjibpaaGreatDoor
