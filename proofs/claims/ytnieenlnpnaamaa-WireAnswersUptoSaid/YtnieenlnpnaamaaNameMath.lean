/-
  The plain mathematics of chapter 18: names and places. Conditions: none. No program is named here.
-/
import Derived.Test.YtnieenlnpnaamaaKeyMath
namespace Go.Proofs.Ytnieenlnpnaamaa.Cell

/-- May the byte c stand at place i of a name? -/
def stepP (i : Nat) (c : UInt8) : Prop := (97 ≤ c.toNat ∧ c.toNat ≤ 122) ∨ c.toNat = 95 ∨ (48 ≤ c.toNat ∧ c.toNat ≤ 57 ∧ i ≠ 0)
instance (i : Nat) (c : UInt8) : Decidable (stepP i c) := by unfold stepP; infer_instance
/-- All bytes of l may stand there, the first at place i. -/
def preB : Nat → List UInt8 → Bool
  | _, [] => true
  | i, c :: l => decide (stepP i c) && preB (i + 1) l
def nameB (l : List UInt8) : Bool := decide (1 ≤ l.length) && decide (l.length ≤ 24) && preB 0 l
theorem preB_snoc : ∀ (l : List UInt8) (i : Nat) (c : UInt8), preB i (l ++ [c]) = (preB i l && decide (stepP (i + l.length) c)) := by
  intro l
  induction l with
  | nil => intro i c; simp [preB]
  | cons d l ih =>
    intro i c
    simp only [List.cons_append, preB, ih, List.length_cons, Bool.and_assoc]
    rw [show i + 1 + l.length = i + (l.length + 1) by omega]
theorem preB_take : ∀ (l : List UInt8) (i k : Nat), preB i l = true → preB i (l.take k) = true := by
  intro l
  induction l with
  | nil => intro i k h; simpa using h
  | cons d l ih =>
    intro i k h
    cases k with
    | zero => rfl
    | succ k =>
      simp only [preB, Bool.and_eq_true] at h
      simp only [List.take_succ_cons, preB, Bool.and_eq_true]
      exact ⟨h.1, ih _ _ h.2⟩
theorem preB_stop {l : List UInt8} {k : Nat} (h : k < l.length) (hs : ¬ stepP k l[k]) : preB 0 l = false := by
  cases hp : preB 0 l with
  | false => rfl
  | true =>
    have := preB_take l 0 (k + 1) hp
    rw [List.take_succ_eq_append_getElem h, preB_snoc, List.length_take, Bool.and_eq_true] at this
    rw [show 0 + min k l.length = k by omega, decide_eq_true_eq] at this
    exact absurd this.2 hs
theorem preB_next {l : List UInt8} {k : Nat} (h : k < l.length) (hp : preB 0 (l.take k) = true) (hs : stepP k l[k]) : preB 0 (l.take (k + 1)) = true := by
  rw [List.take_succ_eq_append_getElem h, preB_snoc, List.length_take, hp, show 0 + min k l.length = k by omega]
  simp [hs]
theorem nameB_short {l : List UInt8} (h : l.length < 1) : nameB l = false := by unfold nameB; rw [decide_eq_false (by omega)]; rfl
theorem nameB_long {l : List UInt8} (h : 24 < l.length) : nameB l = false := by unfold nameB; rw [decide_eq_false (p := l.length ≤ 24) (by omega)]; simp
theorem nameB_pre {l : List UInt8} (h : preB 0 l = false) : nameB l = false := by unfold nameB; rw [h]; simp
theorem nameB_ok {l : List UInt8} (h1 : 1 ≤ l.length) (h2 : l.length ≤ 24) (h : preB 0 l = true) : nameB l = true := by unfold nameB; rw [h]; simp; omega
end Go.Proofs.Ytnieenlnpnaamaa.Cell
namespace Go.Proofs.Ytnieenlnpnaamaa.Cell
def namesOf (ns : List (List UInt8)) : List UInt8 := ns.flatMap fun s => s ++ [0]
theorem namesOf_snoc (ns : List (List UInt8)) (s : List UInt8) : namesOf (ns ++ [s]) = namesOf ns ++ (s ++ [0]) := by simp [namesOf]
/-- Where things stand: the error, the bytes. -/
def place (letter : UInt8) (t : Int) (kind : List UInt8) (ns : List (List UInt8)) : Nat × List UInt8 :=
  if t < 0 ∨ 4 ≤ t then (2, []) else if ns.all nameB = false then (2, []) else (0, letter :: byteOf t.toNat :: (kind ++ namesOf ns))
theorem place_far {letter : UInt8} {t : Int} {kind : List UInt8} {ns : List (List UInt8)} (h : t < 0 ∨ 4 ≤ t) : place letter t kind ns = (2, []) := by unfold place; rw [if_pos h]
theorem place_bad {letter : UInt8} {t : Int} {kind : List UInt8} {ns : List (List UInt8)} (h : ¬ (t < 0 ∨ 4 ≤ t)) (hn : ns.all nameB = false) : place letter t kind ns = (2, []) := by unfold place; rw [if_neg h, if_pos hn]
theorem place_ok {letter : UInt8} {t : Int} {kind : List UInt8} {ns : List (List UInt8)} (h : ¬ (t < 0 ∨ 4 ≤ t)) (hn : ns.all nameB = true) : place letter t kind ns = (0, letter :: byteOf t.toNat :: (kind ++ namesOf ns)) := by unfold place; rw [if_neg h, if_neg (by simp [hn])]
theorem all_stop {ns : List (List UInt8)} {k : Nat} {s : List UInt8} (h : ns[k]? = some s) (hs : nameB s = false) : ns.all nameB = false := by
  rw [List.all_eq_false]
  exact ⟨s, List.mem_of_getElem? h, by simp [hs]⟩
theorem all_next {ns : List (List UInt8)} {k : Nat} {s : List UInt8} (h : ns[k]? = some s) (ha : (ns.take k).all nameB = true) (hs : nameB s = true) : (ns.take (k + 1)).all nameB = true := by
  rw [List.take_add_one, h]
  simp only [Option.toList_some, List.all_append, ha, List.all_cons, hs, List.all_nil]
  rfl
theorem names_next {ns : List (List UInt8)} {k : Nat} {s : List UInt8} (h : ns[k]? = some s) : namesOf (ns.take (k + 1)) = namesOf (ns.take k) ++ (s ++ [0]) := by
  rw [List.take_add_one, h, Option.toList_some, namesOf_snoc]
theorem nameB_le {s : List UInt8} (h : nameB s = true) : s.length ≤ 24 := by
  unfold nameB at h
  simp at h
  omega
end Go.Proofs.Ytnieenlnpnaamaa.Cell
namespace Go.Proofs.Ytnieenlnpnaamaa.Cell
/-- A key behind a place. -/
def joinKey (p : Nat × List UInt8) (v : Val) : Nat × List UInt8 :=
  if p.1 ≠ 0 then (p.1, []) else if (key v).1 ≠ 0 then ((key v).1, []) else (0, p.2 ++ (key v).2)
def rowKey (t : Int) (tbl : List UInt8) (v : Val) : Nat × List UInt8 := joinKey (place 114 t [] [tbl]) v
def uniqueKey (t : Int) (tbl col : List UInt8) (v : Val) : Nat × List UInt8 := joinKey (place 117 t [] [tbl, col]) v
def catKey (t : Int) (kind : UInt8) (name : List UInt8) : Nat × List UInt8 := place 99 t [kind] [name]
/-- The bytes with 1 for the last one. -/
def upper (l : List UInt8) : List UInt8 := l.dropLast ++ [1]
theorem joinKey_no {p : Nat × List UInt8} {v : Val} (h : p.1 ≠ 0) : joinKey p v = (p.1, []) := by unfold joinKey; rw [if_pos h]
theorem joinKey_key {p : Nat × List UInt8} {v : Val} (h : p.1 = 0) (hk : (key v).1 ≠ 0) : joinKey p v = ((key v).1, []) := by unfold joinKey; rw [if_neg (by simp [h]), if_pos hk]
theorem joinKey_ok {p : Nat × List UInt8} {v : Val} (h : p.1 = 0) (hk : (key v).1 = 0) : joinKey p v = (0, p.2 ++ (key v).2) := by unfold joinKey; rw [if_neg (by simp [h]), if_neg (by simp [hk])]
theorem key_len (v : Val) : (key v).2.length ≤ 75 := by
  unfold key
  split
  · simp
  · split
    · simp
    · rename_i h1 h2
      rw [Bool.not_eq_false] at h1
      simp only [List.length_cons]
      unfold keyTail
      have he := esc_len (txt v)
      rw [txt_len] at he
      unfold longText at h2
      simp at h2
      split <;> first | (simp [be8]; done) | (simp only [List.length_append, List.length_cons, List.length_nil]; omega)
theorem place_len (letter : UInt8) (t : Int) (kind : List UInt8) (ns : List (List UInt8)) : (place letter t kind ns).2.length ≤ 2 + kind.length + 25 * ns.length := by
  unfold place
  split
  · simp
  · split
    · simp
    · rename_i h1 h2
      rw [Bool.not_eq_false] at h2
      simp only [List.length_cons, List.length_append]
      have : (namesOf ns).length ≤ 25 * ns.length := by
        clear h1
        induction ns with
        | nil => simp [namesOf]
        | cons s ns ih =>
          simp only [List.all_cons, Bool.and_eq_true] at h2
          have h3 := nameB_le h2.1
          have h4 := ih h2.2
          have h5 : namesOf (s :: ns) = s ++ [0] ++ namesOf ns := by simp [namesOf]
          rw [h5]
          simp
          omega
      omega
theorem place_pos {letter : UInt8} {t : Int} {kind : List UInt8} {ns : List (List UInt8)} (h : (place letter t kind ns).1 = 0) : 2 ≤ (place letter t kind ns).2.length := by
  unfold place at h ⊢
  split at h
  · simp at h
  · rename_i h1
    rw [if_neg h1]
    split at h
    · simp at h
    · rename_i h2
      rw [if_neg h2]
      simp
theorem key_err (v : Val) (h : (key v).1 ≠ 0) : (key v).2 = [] := by
  unfold key at h ⊢
  split
  · rfl
  · rename_i h1
    rw [if_neg h1] at h
    split
    · rfl
    · rename_i h2
      rw [if_neg h2] at h
      exact absurd rfl h
end Go.Proofs.Ytnieenlnpnaamaa.Cell
namespace Go.Proofs.Ytnieenlnpnaamaa.Cell
def rowsOf (t : Int) (tbl : List UInt8) : Nat × List UInt8 × List UInt8 :=
  if (place 114 t [] [tbl]).1 ≠ 0 then ((place 114 t [] [tbl]).1, [], []) else (0, (place 114 t [] [tbl]).2, upper (place 114 t [] [tbl]).2)
def catsOf (t : Int) : Nat × List UInt8 × List UInt8 :=
  if t < 0 ∨ 4 ≤ t then (2, [], []) else (0, [99, byteOf t.toNat], [99, byteOf (t + 1).toNat])
theorem upper_set : ∀ (l : List UInt8), 0 < l.length → l.set (l.length - 1) 1 = upper l := by
  intro l
  unfold upper
  induction l with
  | nil => intro h; simp at h
  | cons a l ih =>
    intro _
    cases l with
    | nil => rfl
    | cons b l =>
      have := ih (by simp)
      simp only [List.length_cons, Nat.add_sub_cancel, List.dropLast_cons_cons, List.cons_append, List.set_cons_succ] at this ⊢
      rw [this]
theorem catKey_far {t : Int} {kind : UInt8} {name : List UInt8} (h : t < 0 ∨ 4 ≤ t) : catKey t kind name = (2, []) := place_far h
theorem catKey_bad {t : Int} {kind : UInt8} {name : List UInt8} (h : ¬ (t < 0 ∨ 4 ≤ t)) (hn : nameB name = false) : catKey t kind name = (2, []) := place_bad h (by simp [hn])
theorem catKey_ok {t : Int} {kind : UInt8} {name : List UInt8} (h : ¬ (t < 0 ∨ 4 ≤ t)) (hn : nameB name = true) : catKey t kind name = (0, [99, byteOf t.toNat, kind] ++ name ++ [0]) := by
  unfold catKey
  rw [place_ok h (by simp [hn])]
  simp [namesOf]
theorem place_none (t : Int) : place 99 t [] [] = if t < 0 ∨ 4 ≤ t then (2, []) else (0, [99, byteOf t.toNat]) := by
  unfold place
  rfl
end Go.Proofs.Ytnieenlnpnaamaa.Cell
