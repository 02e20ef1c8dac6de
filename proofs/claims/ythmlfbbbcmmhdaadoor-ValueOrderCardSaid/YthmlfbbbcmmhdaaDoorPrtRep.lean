/-
  Plain: the literals of values. Conditions: none. No program is named here.
-/
import Derived.Test.YthmlfbbbcmmhdaaDoorValMath
import Derived.Lib.ItoaMem
import Derived.Lib.Replace
namespace Go.Proofs.YthmlfbbbcmmhdaaDoor.Prt
open Go.Lib (dg nDigits decDigits)

/-- The last j digits of u. -/
def low (u j : Nat) : List UInt8 := (List.range j).map fun t => dg u (j - 1 - t)
theorem low_len (u j : Nat) : (low u j).length = j := by simp [low]
theorem low_zero (u : Nat) : low u 0 = [] := rfl
theorem low_succ (u j : Nat) : low u (j + 1) = dg u j :: low u j := by
  unfold low
  rw [List.range_succ_eq_map, List.map_cons, List.map_map]
  congr 1
  apply List.map_congr_left
  intro t _
  show dg u (j + 1 - 1 - (t + 1)) = _
  congr 1
  omega
theorem dec_low (u : Nat) : decDigits u = low u (nDigits u) := Go.Lib.decDigits_eq u
theorem dg_toNat (u j : Nat) : (dg u j).toNat = 48 + u / 10 ^ j % 10 := by
  unfold dg
  rw [UInt8.toNat_ofNat_of_lt' (by show _ < 256; omega)]
theorem nDigits_le {u j : Nat} (h : u < 10 ^ j) (hj : 1 ≤ j) : nDigits u ≤ j := by
  induction j generalizing u with
  | zero => omega
  | succ j ih =>
    by_cases h1 : u < 10
    · rw [Go.Lib.nDigits_small h1]; omega
    · rw [Go.Lib.nDigits_big h1]
      have hj1 : 1 ≤ j := by
        rcases Nat.eq_zero_or_pos j with e | e
        · subst e; simp at h; omega
        · exact e
      have := ih (u := u / 10) (by rw [Nat.pow_succ] at h; omega) hj1
      omega
theorem lt_nDigits {u j : Nat} (h : 10 ^ j ≤ u) : j < nDigits u := by
  rcases Nat.lt_or_ge j (nDigits u) with h1 | h1
  · exact h1
  · have h2 := Go.Lib.lt_pow_nDigits u
    have h3 := Nat.pow_le_pow_right (show 0 < 10 by omega) h1
    omega
/-- At least n digits. -/
def dgs (u n : Nat) : List UInt8 := low u (max n (nDigits u))
theorem dgs_one (u : Nat) : dgs u 1 = decDigits u := by
  unfold dgs
  rw [dec_low, Nat.max_eq_right (Go.Lib.nDigits_pos u)]
theorem dgs_end {u n j : Nat} (hn : 1 ≤ n) (hj : j ≤ max n (nDigits u)) (h1 : ¬ 0 < u / 10 ^ j) (h2 : ¬ j < n) : low u j = dgs u n := by
  unfold dgs
  have hp : 0 < 10 ^ j := Nat.pow_pos (by omega)
  have h3 : u < 10 ^ j := by
    rcases Nat.lt_or_ge u (10 ^ j) with h | h
    · exact h
    · exact absurd (Nat.div_pos h hp) h1
  have := nDigits_le h3 (by omega)
  congr 1
  omega
theorem dgs_more {u n j : Nat} (h : 0 < u / 10 ^ j ∨ j < n) : j + 1 ≤ max n (nDigits u) := by
  rcases h with h | h
  · have : 10 ^ j ≤ u := by
      rcases Nat.lt_or_ge u (10 ^ j) with h1 | h1
      · rw [Nat.div_eq_of_lt h1] at h; omega
      · exact h1
    have := lt_nDigits this
    omega
  · omega
theorem div_step (u j : Nat) : u / 10 ^ j / 10 = u / 10 ^ (j + 1) := by rw [Nat.div_div_eq_div_mul, ← Nat.pow_succ]
/-- Four digits behind the point. -/
theorem four (f : Nat) (h : f < 10000) : (decDigits (f + 10000)).drop 1 = dgs f 4 := by
  have h5 : nDigits (f + 10000) = 5 := Go.Lib.nDigits_unique 4 _ (by omega) (by omega)
  have h4 : nDigits f ≤ 4 := nDigits_le (by omega) (by omega)
  unfold dgs
  rw [dec_low, h5, Nat.max_eq_left h4, low_succ, List.drop_one, List.tail_cons]
  unfold low
  apply List.map_congr_left
  intro t ht
  have ht' : t < 4 := List.mem_range.1 ht
  apply UInt8.toNat_inj.1
  rw [dg_toNat, dg_toNat]
  obtain rfl | rfl | rfl | rfl : t = 0 ∨ t = 1 ∨ t = 2 ∨ t = 3 := by omega
  · show 48 + (f + 10000) / 1000 % 10 = 48 + f / 1000 % 10; omega
  · show 48 + (f + 10000) / 100 % 10 = 48 + f / 100 % 10; omega
  · show 48 + (f + 10000) / 10 % 10 = 48 + f / 10 % 10; omega
  · show 48 + (f + 10000) / 1 % 10 = 48 + f / 1 % 10; omega
def minus (n : Int) : List UInt8 := if n < 0 then [45] else []
theorem itoa_minus (n : Int) : Go.Lib.itoa n = minus n ++ decDigits n.natAbs := by
  unfold Go.Lib.itoa minus
  split
  · rfl
  · rw [List.nil_append]; congr 1; omega
def decTxt (n : Int) : List UInt8 := minus n ++ decDigits (n.natAbs / 10000) ++ [46] ++ dgs (n.natAbs % 10000) 4
def hexc (x : Nat) : UInt8 := if x < 10 then UInt8.ofNat (48 + x) else UInt8.ofNat (87 + x)
def hexs (l : List UInt8) : List UInt8 := l.flatMap fun c => [hexc (c.toNat / 16), hexc (c.toNat % 16)]
def quo (l : List UInt8) : List UInt8 := l.flatMap fun c => if c.toNat = 39 then [39, 39] else [c]
theorem hexs_snoc (l : List UInt8) (c : UInt8) : hexs (l ++ [c]) = hexs l ++ [hexc (c.toNat / 16), hexc (c.toNat % 16)] := by simp [hexs]
theorem quo_snoc (l : List UInt8) (c : UInt8) : quo (l ++ [c]) = quo l ++ if c.toNat = 39 then [39, 39] else [c] := by simp [quo]
theorem hexs_len (l : List UInt8) : (hexs l).length = 2 * l.length := by
  induction l with
  | nil => rfl
  | cons c l ih =>
    have : hexs (c :: l) = [hexc (c.toNat / 16), hexc (c.toNat % 16)] ++ hexs l := by simp [hexs]
    rw [this, List.length_append, ih]
    simp
    omega
theorem quo_len (l : List UInt8) : (quo l).length ≤ 2 * l.length := by
  induction l with
  | nil => exact Nat.le_refl _
  | cons c l ih =>
    have : quo (c :: l) = (if c.toNat = 39 then [39, 39] else [c]) ++ quo l := by simp [quo]
    rw [this, List.length_append]
    have h2 : (if c.toNat = 39 then [39, 39] else [c] : List UInt8).length ≤ 2 := by split <;> simp
    simp only [List.length_cons]
    omega
/-- The literal. -/
def prt (v : Cell.Val) : List UInt8 :=
  if Cell.rightB v = false then []
  else if v.k.toNat = 0 then [110, 117, 108, 108]
  else if v.k.toNat = 1 then (if v.n = 1 then [116, 114, 117, 101] else [102, 97, 108, 115, 101])
  else if v.k.toNat = 2 then Go.Lib.itoa v.n
  else if v.k.toNat = 3 then decTxt v.n
  else if v.k.toNat = 4 then [39] ++ quo v.s.data.toList ++ [39]
  else [120, 39] ++ hexs v.s.data.toList ++ [39]
end Go.Proofs.YthmlfbbbcmmhdaaDoor.Prt

/-
  Plain: quotes that are doubled. Conditions: none. No program is named here.
-/
namespace Go.Proofs.YthmlfbbbcmmhdaaDoor.Prt
open Go

theorem index_39 : ∀ s : List UInt8, (Lib.index s [39] = -1 ∧ ∀ c ∈ s, c.toNat ≠ 39) ∨ ∃ (i : Nat) (r : List UInt8), Lib.index s [39] = i ∧ s = s.take i ++ 39 :: r ∧ i + 1 + r.length = s.length ∧ ∀ c ∈ s.take i, c.toNat ≠ 39 := by
  intro s
  induction s with
  | nil => exact .inl ⟨rfl, fun c h => by cases h⟩
  | cons b l ih =>
    by_cases hb : b = 39
    · subst hb
      exact .inr ⟨0, l, by simp [Lib.index, List.isPrefixOf], by simp, by simp; omega, fun c h => by simp at h⟩
    · have hn : b.toNat ≠ 39 := fun h => hb (UInt8.toNat_inj.1 h)
      have e : Lib.index (b :: l) [39] = if Lib.index l [39] == -1 then -1 else Lib.index l [39] + 1 := by
        conv => lhs; unfold Lib.index
        rw [if_neg]
        simp [List.isPrefixOf]
        exact fun h => hb h.symm
      rcases ih with ⟨h1, h2⟩ | ⟨i, r, h1, h2, h3, h4⟩
      · refine .inl ⟨by rw [e, h1]; rfl, fun c hc => ?_⟩
        rcases List.mem_cons.1 hc with rfl | hc
        · exact hn
        · exact h2 c hc
      · refine .inr ⟨i + 1, r, ?_, ?_, ?_, fun c hc => ?_⟩
        · rw [e, h1, if_neg (by simp)]; omega
        · rw [List.take_succ_cons, List.cons_append, ← h2]
        · simp; omega
        · rw [List.take_succ_cons] at hc
          rcases List.mem_cons.1 hc with rfl | hc
          · exact hn
          · exact h4 c hc
theorem quo_plain : ∀ l : List UInt8, (∀ c ∈ l, c.toNat ≠ 39) → quo l = l := by
  intro l
  induction l with
  | nil => intro _; rfl
  | cons c l ih =>
    intro h
    have e : quo (c :: l) = (if c.toNat = 39 then [39, 39] else [c]) ++ quo l := by simp [quo]
    rw [e, if_neg (h c (by simp)), ih (fun d hd => h d (by simp [hd]))]
    rfl
theorem quo_append (l m : List UInt8) : quo (l ++ m) = quo l ++ quo m := by simp [quo]
theorem drop_at {s r : List UInt8} {i : Nat} (h : s = s.take i ++ 39 :: r) (hl : i + 1 + r.length = s.length) : s.drop (i + [(39 : UInt8)].length) = r := by
  have ht : (s.take i).length = i := by rw [List.length_take]; omega
  conv => lhs; rw [h]
  rw [List.drop_append, ht]
  simp
  omega
theorem replace_39 : ∀ (n : Nat) (s : List UInt8), s.length ≤ n → Lib.replaceK [39] [39, 39] (Lib.count s [39]) s = quo s ∧ Lib.count s [39] ≤ s.length := by
  intro n
  induction n with
  | zero =>
    intro s h
    obtain rfl : s = [] := List.eq_nil_of_length_eq_zero (by omega)
    rw [Lib.count_miss (by rfl)]
    exact ⟨rfl, Nat.le_refl _⟩
  | succ n ih =>
    intro s h
    rcases index_39 s with ⟨h1, h2⟩ | ⟨i, r, h1, h2, h3, h4⟩
    · rw [Lib.count_miss h1]
      exact ⟨(quo_plain s h2).symm, Nat.zero_le _⟩
    · obtain ⟨i1, i2⟩ := ih r (by omega)
      rw [Lib.count_hit (by simp) h1, Nat.add_comm, drop_at h2 h3]
      refine ⟨?_, by omega⟩
      rw [Lib.replaceK_hit _ _ _ _ i h1, drop_at h2 h3, i1]
      conv => rhs; rw [h2]
      have e : quo (39 :: r) = [39, 39] ++ quo r := by simp [quo]
      rw [quo_append, quo_plain _ h4, e, List.append_assoc]
theorem quo_replace (s : List UInt8) : Lib.replaceAll s [39] [39, 39] = quo s := by
  have e : Lib.replaceAll s [39] [39, 39] = Lib.replaceK [39] [39, 39] (Lib.count s [39]) s := by
    unfold Lib.replaceAll Lib.replace Lib.replaceNum
    rw [if_neg (by decide), if_pos (.inl (by omega))]
  rw [e]
  exact (replace_39 _ s (Nat.le_refl _)).1
theorem count_39 (s : List UInt8) : Lib.count s [39] ≤ s.length := (replace_39 _ s (Nat.le_refl _)).2
end Go.Proofs.YthmlfbbbcmmhdaaDoor.Prt
