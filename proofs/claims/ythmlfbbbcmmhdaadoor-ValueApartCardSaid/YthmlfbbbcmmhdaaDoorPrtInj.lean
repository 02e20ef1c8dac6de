/-
  Plain: different right values never have the same literal. Conditions: none. No program is named here.
-/
import Derived.Test.YthmlfbbbcmmhdaaDoorPrtRep
namespace Go.Proofs.YthmlfbbbcmmhdaaDoor.Prt
open Go.Lib (dg nDigits decDigits)

def isDig (c : UInt8) : Prop := 48 ≤ c.toNat ∧ c.toNat ≤ 57
theorem dg_dig (u j : Nat) : isDig (dg u j) := by
  unfold isDig
  rw [dg_toNat]
  omega
theorem low_dig (u j : Nat) : ∀ c ∈ low u j, isDig c := by
  intro c hc
  unfold low at hc
  obtain ⟨t, _, rfl⟩ := List.mem_map.1 hc
  exact dg_dig _ _
theorem dec_dig (u : Nat) : ∀ c ∈ decDigits u, isDig c := by rw [dec_low]; exact low_dig u _
theorem dec_ne (u : Nat) : decDigits u ≠ [] := by
  intro h
  have := Go.Lib.decDigits_length u
  rw [h] at this
  have := Go.Lib.nDigits_pos u
  simp at *
  omega
/-- What digits are worth. -/
def worth (l : List UInt8) : Nat := l.foldl (fun a c => a * 10 + (c.toNat - 48)) 0
theorem worth_snoc (l : List UInt8) (c : UInt8) : worth (l ++ [c]) = worth l * 10 + (c.toNat - 48) := by simp [worth]
theorem low_snoc (u j : Nat) : low u (j + 1) = low (u / 10) j ++ [dg u 0] := by
  unfold low
  rw [List.range_succ, List.map_append]
  congr 1
  · apply List.map_congr_left
    intro t ht
    have : t < j := List.mem_range.1 ht
    rw [show j + 1 - 1 - t = (j - 1 - t) + 1 by omega, Go.Lib.dg_succ]
  · simp
theorem worth_low : ∀ (j u : Nat), worth (low u j) = u % 10 ^ j := by
  intro j
  induction j with
  | zero => intro u; rw [Nat.pow_zero, Nat.mod_one]; rfl
  | succ j ih =>
    intro u
    rw [low_snoc, worth_snoc, ih, dg_toNat, Nat.pow_zero, Nat.div_one]
    have h1 : u / 10 % 10 ^ j = u % 10 ^ (j + 1) / 10 := by rw [Nat.pow_succ, Nat.mul_comm, Nat.mod_mul_right_div_self]
    have h2 : u % 10 ^ (j + 1) % 10 = u % 10 := Nat.mod_mod_of_dvd _ ⟨10 ^ j, by rw [Nat.pow_succ, Nat.mul_comm]⟩
    omega
theorem worth_dec (u : Nat) : worth (decDigits u) = u := by rw [dec_low, worth_low, Nat.mod_eq_of_lt (Go.Lib.lt_pow_nDigits u)]
theorem dec_inj {u v : Nat} (h : decDigits u = decDigits v) : u = v := by rw [← worth_dec u, h, worth_dec v]
theorem head_dig {u : Nat} {r : List UInt8} {c : UInt8} (h : decDigits u = c :: r) : isDig c := dec_dig u c (by rw [h]; simp)
theorem signed_inj {x y : Int} (h : minus x ++ decDigits x.natAbs = minus y ++ decDigits y.natAbs) : x = y := by
  unfold minus at h
  by_cases hx : x < 0 <;> by_cases hy : y < 0
  · rw [if_pos hx, if_pos hy] at h
    have := dec_inj (List.append_cancel_left h)
    omega
  · rw [if_pos hx, if_neg hy, List.nil_append] at h
    have := head_dig (c := 45) h.symm
    exact absurd this.1 (by decide)
  · rw [if_neg hx, if_pos hy, List.nil_append] at h
    have := head_dig (c := 45) h
    exact absurd this.1 (by decide)
  · rw [if_neg hx, if_neg hy, List.nil_append, List.nil_append] at h
    have := dec_inj h
    omega
theorem four_len (f : Nat) (h : f < 10000) : (dgs f 4).length = 4 := by
  unfold dgs
  rw [low_len, Nat.max_eq_left (nDigits_le (by omega) (by omega))]
theorem worth_four (f : Nat) (h : f < 10000) : worth (dgs f 4) = f := by
  unfold dgs
  rw [worth_low, Nat.max_eq_left (nDigits_le (by omega) (by omega))]
  exact Nat.mod_eq_of_lt (by omega)
theorem decTxt_inj {x y : Int} (h : decTxt x = decTxt y) : x = y := by
  unfold decTxt at h
  have hl := List.append_inj' h (by rw [four_len _ (Nat.mod_lt _ (by omega)), four_len _ (Nat.mod_lt _ (by omega))])
  have hr : x.natAbs % 10000 = y.natAbs % 10000 := by rw [← worth_four _ (Nat.mod_lt x.natAbs (by omega)), hl.2, worth_four _ (Nat.mod_lt _ (by omega))]
  have h2 := List.append_cancel_right hl.1
  unfold minus at h2
  by_cases hx : x < 0 <;> by_cases hy : y < 0
  · rw [if_pos hx, if_pos hy] at h2
    have := dec_inj (List.append_cancel_left h2)
    omega
  · rw [if_pos hx, if_neg hy, List.nil_append] at h2
    have := head_dig (c := 45) h2.symm
    exact absurd this.1 (by decide)
  · rw [if_neg hx, if_pos hy, List.nil_append] at h2
    have := head_dig (c := 45) h2
    exact absurd this.1 (by decide)
  · rw [if_neg hx, if_neg hy, List.nil_append, List.nil_append] at h2
    have := dec_inj h2
    omega
theorem minus_mem {n : Int} {c : UInt8} (h : c ∈ minus n) : c = 45 := by
  unfold minus at h
  split at h
  · simpa using h
  · cases h
theorem int_no_dot (x : Int) : (46 : UInt8) ∉ Go.Lib.itoa x := by
  rw [itoa_minus]
  intro h
  rcases List.mem_append.1 h with h | h
  · exact absurd (minus_mem h) (by decide)
  · exact absurd (dec_dig _ _ h).1 (by decide)
theorem dec_dot (x : Int) : (46 : UInt8) ∈ decTxt x := by unfold decTxt; simp
theorem quo_cons (c : UInt8) (l : List UInt8) : quo (c :: l) = (if c.toNat = 39 then [39, 39] else [c]) ++ quo l := by simp [quo]
theorem quo_inj : ∀ {a b : List UInt8}, quo a = quo b → a = b := by
  intro a
  induction a with
  | nil =>
    intro b h
    cases b with
    | nil => rfl
    | cons d b => rw [quo_cons] at h; split at h <;> cases h
  | cons c a ih =>
    intro b h
    cases b with
    | nil => rw [quo_cons] at h; split at h <;> cases h
    | cons d b =>
      rw [quo_cons, quo_cons] at h
      by_cases hc : c.toNat = 39 <;> by_cases hd : d.toNat = 39
      · rw [if_pos hc, if_pos hd] at h
        have := ih (List.append_cancel_left h)
        rw [this, show c = d from UInt8.toNat_inj.1 (by omega)]
      · rw [if_pos hc, if_neg hd] at h
        have : (39 : UInt8) = d := by injection h
        exact absurd (by rw [← this]; rfl) hd
      · rw [if_neg hc, if_pos hd] at h
        have : c = (39 : UInt8) := by injection h
        exact absurd (by rw [this]; rfl) hc
      · rw [if_neg hc, if_neg hd] at h
        injection h with h1 h2
        rw [h1, ih h2]
theorem hexc_inj : ∀ x y : Fin 16, hexc x.val = hexc y.val → x = y := by decide
theorem hexs_cons (c : UInt8) (l : List UInt8) : hexs (c :: l) = hexc (c.toNat / 16) :: hexc (c.toNat % 16) :: hexs l := by simp [hexs]
theorem hexs_inj : ∀ {a b : List UInt8}, hexs a = hexs b → a = b := by
  intro a
  induction a with
  | nil =>
    intro b h
    cases b with
    | nil => rfl
    | cons d b => rw [hexs_cons] at h; cases h
  | cons c a ih =>
    intro b h
    cases b with
    | nil => rw [hexs_cons] at h; cases h
    | cons d b =>
      rw [hexs_cons, hexs_cons] at h
      injection h with h1 h
      injection h with h2 h
      have hc := c.toNat_lt
      have hd := d.toNat_lt
      have e1 := congrArg Fin.val (hexc_inj ⟨c.toNat / 16, by omega⟩ ⟨d.toNat / 16, by omega⟩ h1)
      have e2 := congrArg Fin.val (hexc_inj ⟨c.toNat % 16, by omega⟩ ⟨d.toNat % 16, by omega⟩ h2)
      simp only at e1 e2
      rw [ih h, show c = d from UInt8.toNat_inj.1 (by omega)]
/-- The first byte tells the kind. -/
def lead (v : Cell.Val) (l : List UInt8) : Prop :=
  (v.k.toNat = 0 → l = [110, 117, 108, 108] ∧ v.n = 0 ∧ v.s.data.toList = []) ∧ (v.k.toNat = 1 → l = (if v.n = 1 then [116, 114, 117, 101] else [102, 97, 108, 115, 101]) ∧ (v.n = 0 ∨ v.n = 1) ∧ v.s.data.toList = []) ∧
  (v.k.toNat = 2 → l = Go.Lib.itoa v.n ∧ v.s.data.toList = []) ∧ (v.k.toNat = 3 → l = decTxt v.n ∧ v.s.data.toList = []) ∧
  (v.k.toNat = 4 → l = [39] ++ quo v.s.data.toList ++ [39] ∧ v.n = 0) ∧ (v.k.toNat = 5 → l = [120, 39] ++ hexs v.s.data.toList ++ [39] ∧ v.n = 0) ∧ v.k.toNat ≤ 5
theorem nil_of {s : ByteArray} (h : s.size = 0) : s.data.toList = [] := List.eq_nil_of_length_eq_zero (by rw [Array.length_toList]; exact h)
theorem lead_of {v : Cell.Val} (h : Cell.rightB v = true) : lead v (prt v) := by
  unfold prt
  rw [if_neg (by rw [h]; simp)]
  unfold Cell.rightB at h
  unfold lead
  split at h
  · rename_i e
    simp only [Bool.and_eq_true, decide_eq_true_eq] at h
    refine ⟨fun _ => ⟨by rw [if_pos e], h.1, nil_of h.2⟩, ?_, ?_, ?_, ?_, ?_, ?_⟩ <;> intros <;> omega
  · rename_i e
    simp only [Bool.and_eq_true, Bool.or_eq_true, decide_eq_true_eq] at h
    refine ⟨?_, fun _ => ⟨by rw [if_neg (by omega), if_pos e], by omega, nil_of h.2⟩, ?_, ?_, ?_, ?_, ?_⟩ <;> intros <;> omega
  · rename_i e
    simp only [decide_eq_true_eq] at h
    refine ⟨?_, ?_, fun _ => ⟨by rw [if_neg (by omega), if_neg (by omega), if_pos e], nil_of h⟩, ?_, ?_, ?_, ?_⟩ <;> intros <;> omega
  · rename_i e
    simp only [decide_eq_true_eq] at h
    refine ⟨?_, ?_, ?_, fun _ => ⟨by rw [if_neg (by omega), if_neg (by omega), if_neg (by omega), if_pos e], nil_of h⟩, ?_, ?_, ?_⟩ <;> intros <;> omega
  · rename_i e
    simp only [Bool.and_eq_true, decide_eq_true_eq] at h
    refine ⟨?_, ?_, ?_, ?_, fun _ => ⟨by rw [if_neg (by omega), if_neg (by omega), if_neg (by omega), if_neg (by omega), if_pos e], h.1⟩, ?_, ?_⟩ <;> intros <;> omega
  · rename_i e
    simp only [Bool.and_eq_true, decide_eq_true_eq] at h
    refine ⟨?_, ?_, ?_, ?_, ?_, fun _ => ⟨by rw [if_neg (by omega), if_neg (by omega), if_neg (by omega), if_neg (by omega), if_neg (by omega)], h.1⟩, ?_⟩ <;> intros <;> omega
  · cases h
/-- The class of a first byte. -/
def cls (c : UInt8) : Nat := if c.toNat = 110 then 0 else if c.toNat = 116 ∨ c.toNat = 102 then 1 else if c.toNat = 39 then 4 else if c.toNat = 120 then 5 else 2
theorem num_head (n : Int) (r : List UInt8) : ∃ c t, minus n ++ decDigits n.natAbs ++ r = c :: t ∧ cls c = 2 := by
  cases hm : minus n ++ decDigits n.natAbs with
  | nil => exact absurd (List.append_eq_nil_iff.1 hm).2 (dec_ne _)
  | cons c t =>
    refine ⟨c, t ++ r, rfl, ?_⟩
    have : c ∈ minus n ++ decDigits n.natAbs := by rw [hm]; simp
    rcases List.mem_append.1 this with h | h
    · rw [minus_mem h]; rfl
    · have := dec_dig _ _ h
      unfold isDig at this
      unfold cls
      repeat' split
      all_goals omega
theorem dec_head (n : Int) (r : List UInt8) : ∃ c t, minus n ++ decDigits (n.natAbs / 10000) ++ r = c :: t ∧ cls c = 2 := by
  cases hm : minus n ++ decDigits (n.natAbs / 10000) with
  | nil => exact absurd (List.append_eq_nil_iff.1 hm).2 (dec_ne _)
  | cons c t =>
    refine ⟨c, t ++ r, rfl, ?_⟩
    have : c ∈ minus n ++ decDigits (n.natAbs / 10000) := by rw [hm]; simp
    rcases List.mem_append.1 this with h | h
    · rw [minus_mem h]; rfl
    · have := dec_dig _ _ h
      unfold isDig at this
      unfold cls
      repeat' split
      all_goals omega
/-- The class of a value. -/
def vcls (v : Cell.Val) : Nat := if v.k.toNat = 3 then 2 else v.k.toNat
theorem lead_head {v : Cell.Val} {l : List UInt8} (h : lead v l) : ∃ c t, l = c :: t ∧ cls c = vcls v := by
  obtain ⟨h0, h1, h2, h3, h4, h5, h6⟩ := h
  unfold vcls
  obtain hk | hk | hk | hk | hk | hk : v.k.toNat = 0 ∨ v.k.toNat = 1 ∨ v.k.toNat = 2 ∨ v.k.toNat = 3 ∨ v.k.toNat = 4 ∨ v.k.toNat = 5 := by omega
  all_goals rw [hk]
  · rw [(h0 hk).1]; exact ⟨_, _, rfl, rfl⟩
  · rw [(h1 hk).1]
    split
    · exact ⟨_, _, rfl, rfl⟩
    · exact ⟨_, _, rfl, rfl⟩
  · obtain ⟨c, t, e1, e2⟩ := num_head v.n []
    rw [List.append_nil] at e1
    rw [(h2 hk).1, itoa_minus]
    exact ⟨c, t, e1, e2⟩
  · obtain ⟨c, t, e1, e2⟩ := dec_head v.n ([46] ++ dgs (v.n.natAbs % 10000) 4)
    rw [(h3 hk).1]
    refine ⟨c, t, ?_, e2⟩
    unfold decTxt
    rw [← e1]
    simp
  · rw [(h4 hk).1]; exact ⟨39, _, rfl, rfl⟩
  · rw [(h5 hk).1]; exact ⟨120, _, rfl, rfl⟩
theorem prt_ne {v : Cell.Val} (h : Cell.rightB v = true) : prt v ≠ [] := by
  obtain ⟨c, t, e, _⟩ := lead_head (lead_of h)
  rw [e]
  simp
theorem prt_inj {v u : Cell.Val} (hv : Cell.rightB v = true) (hu : Cell.rightB u = true) (h : prt v = prt u) : v = u := by
  have lv := lead_of hv
  have lu := lead_of hu
  rw [← h] at lu
  generalize prt v = l at *
  obtain ⟨c, t, e, ec⟩ := lead_head lv
  obtain ⟨c', t', e', ec'⟩ := lead_head lu
  obtain ⟨rfl, -⟩ : c = c' ∧ t = t' := by rw [e] at e'; injection e' with a b; exact ⟨a, b⟩
  have hcl : vcls v = vcls u := ec.symm.trans ec'
  clear e e' ec ec'
  obtain ⟨v0, v1, v2, v3, v4, v5, v6⟩ := lv
  obtain ⟨u0, u1, u2, u3, u4, u5, u6⟩ := lu
  unfold vcls at hcl
  have ext : v.k.toNat = u.k.toNat → v.n = u.n → v.s.data.toList = u.s.data.toList → v = u := fun a b c => Cell.Val.ext' (UInt8.toNat_inj.1 a) b c
  obtain hk | hk | hk | hk | hk | hk : v.k.toNat = 0 ∨ v.k.toNat = 1 ∨ v.k.toNat = 2 ∨ v.k.toNat = 3 ∨ v.k.toNat = 4 ∨ v.k.toNat = 5 := by omega
  · have hk' : u.k.toNat = 0 := by rw [hk] at hcl; split at hcl <;> split at hcl <;> omega
    obtain ⟨_, a, b⟩ := v0 hk
    obtain ⟨_, a', b'⟩ := u0 hk'
    exact ext (by omega) (by omega) (by rw [b, b'])
  · have hk' : u.k.toNat = 1 := by rw [hk] at hcl; split at hcl <;> split at hcl <;> omega
    obtain ⟨a, b, c⟩ := v1 hk
    obtain ⟨a', b', c'⟩ := u1 hk'
    rw [a] at a'
    refine ext (by omega) ?_ (by rw [c, c'])
    by_cases h1 : v.n = 1 <;> by_cases h2 : u.n = 1
    · omega
    · rw [if_pos h1, if_neg h2] at a'; cases a'
    · rw [if_neg h1, if_pos h2] at a'; cases a'
    · omega
  · have hk' : u.k.toNat = 2 ∨ u.k.toNat = 3 := by rw [hk] at hcl; split at hcl <;> split at hcl <;> omega
    obtain ⟨a, b⟩ := v2 hk
    rcases hk' with hk' | hk'
    · obtain ⟨a', b'⟩ := u2 hk'
      rw [a, itoa_minus, itoa_minus] at a'
      exact ext (by omega) (signed_inj a') (by rw [b, b'])
    · obtain ⟨a', b'⟩ := u3 hk'
      exact absurd (by rw [← a, a']; exact dec_dot _) (int_no_dot v.n)
  · have hk' : u.k.toNat = 2 ∨ u.k.toNat = 3 := by rw [hk] at hcl; split at hcl <;> split at hcl <;> omega
    obtain ⟨a, b⟩ := v3 hk
    rcases hk' with hk' | hk'
    · obtain ⟨a', b'⟩ := u2 hk'
      exact absurd (by rw [← a', a]; exact dec_dot _) (int_no_dot u.n)
    · obtain ⟨a', b'⟩ := u3 hk'
      rw [a] at a'
      exact ext (by omega) (decTxt_inj a') (by rw [b, b'])
  · have hk' : u.k.toNat = 4 := by rw [hk] at hcl; split at hcl <;> split at hcl <;> omega
    obtain ⟨a, b⟩ := v4 hk
    obtain ⟨a', b'⟩ := u4 hk'
    rw [a] at a'
    exact ext (by omega) (by omega) (quo_inj (List.append_cancel_left (List.append_cancel_right a')))
  · have hk' : u.k.toNat = 5 := by rw [hk] at hcl; split at hcl <;> split at hcl <;> omega
    obtain ⟨a, b⟩ := v5 hk
    obtain ⟨a', b'⟩ := u5 hk'
    rw [a] at a'
    exact ext (by omega) (by omega) (hexs_inj (List.append_cancel_left (List.append_cancel_right a')))
end Go.Proofs.YthmlfbbbcmmhdaaDoor.Prt
