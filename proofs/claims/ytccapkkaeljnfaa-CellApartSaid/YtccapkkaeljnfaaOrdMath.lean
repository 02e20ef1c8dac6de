/-
  Plain: keys sort as their values do, and no key is the beginning of another's. Conditions: numbers within 64 bits. No program is named here.
-/
import Derived.Test.YtccapkkaeljnfaaOrd
import Derived.Test.YtccapkkaeljnfaaKeyMath
namespace Go.Proofs.Ytccapkkaeljnfaa
open Go.RowKit

theorem esc_eq : ∀ l : List UInt8, Cell.esc l = esc l := by
  intro l
  induction l with
  | nil => rfl
  | cons c l ih =>
    have : Cell.esc (c :: l) = (if c = 0 then [0, 255] else [c]) ++ Cell.esc l := by simp [Cell.esc]
    rw [this, ih]
    simp only [esc]
    split <;> rfl
theorem be8_eq (u : Nat) : Cell.be8 u = be 8 u := by
  simp only [Cell.be8, be, Cell.byteOf]
  have key : ∀ a b : Nat, a % 256 = b % 256 → UInt8.ofNat (a % 256) = UInt8.ofNat b := fun a b h => UInt8.toNat_inj.1 (by simp; omega)
  simp only [List.cons.injEq, and_true]
  refine ⟨key _ _ ?_, key _ _ ?_, key _ _ ?_, key _ _ ?_, key _ _ ?_, key _ _ ?_, key _ _ ?_, key _ _ ?_⟩ <;> omega
theorem cmpI_zero (a b : Int) : cmpI a b = 0 ↔ a = b := by
  unfold cmpI
  constructor
  · intro h
    split at h
    · omega
    · split at h <;> omega
  · rintro rfl
    rw [if_neg (by omega), if_neg (by omega)]
theorem ordV_zero {a b : Cell.Val} (h : ordV a b = 0) : a = b := by
  unfold ordV or3 at h
  split at h
  · rename_i h1; exact absurd h h1
  · rename_i h1
    split at h
    · rename_i h2; exact absurd h h2
    · rename_i h2
      have e1 := (cmpI_zero _ _).1 (Decidable.of_not_not h1)
      have e2 := (cmpI_zero _ _).1 (Decidable.of_not_not h2)
      exact Cell.Val.ext' (UInt8.toNat_inj.1 (by omega)) e2 ((cmpB_zero _ _).1 h)
theorem key_form {a : Cell.Val} {k : List UInt8} (h : Cell.key a = (0, k)) : Cell.rightB a = true ∧ k = a.k :: Cell.keyTail a := by
  unfold Cell.key at h
  split at h
  · injection h with h _; cases h
  · split at h
    · injection h with h _; cases h
    · rename_i h1 _
      injection h with _ h
      exact ⟨by simpa using h1, h.symm⟩
def Bd (a : Cell.Val) : Prop := -9223372036854775808 ≤ a.n ∧ a.n ≤ 9223372036854775807
theorem empty_list {s : ByteArray} (h : s.size = 0) : s.data.toList = [] := List.eq_nil_of_length_eq_zero (by rw [Array.length_toList]; exact h)

theorem top_num (n : Int) (h1 : -9223372036854775808 ≤ n) (h2 : n ≤ 9223372036854775807) : (((Cell.u64 n + 9223372036854775808) % 18446744073709551616 : Nat) : Int) = n + 9223372036854775808 := by
  unfold Cell.u64
  omega
theorem cmp_num {n m : Int} (hn1 : -9223372036854775808 ≤ n) (hn2 : n ≤ 9223372036854775807) (hm1 : -9223372036854775808 ≤ m) (hm2 : m ≤ 9223372036854775807) :
    cmpB (Cell.be8 ((Cell.u64 n + 9223372036854775808) % 18446744073709551616)) (Cell.be8 ((Cell.u64 m + 9223372036854775808) % 18446744073709551616)) = cmpI n m := by
  have e1 := top_num n hn1 hn2
  have e2 := top_num m hm1 hm2
  obtain ⟨u, hu⟩ : ∃ u, u = (Cell.u64 n + 9223372036854775808) % 18446744073709551616 := ⟨_, rfl⟩
  obtain ⟨v, hv⟩ : ∃ v, v = (Cell.u64 m + 9223372036854775808) % 18446744073709551616 := ⟨_, rfl⟩
  rw [← hu] at e1 ⊢
  rw [← hv] at e2 ⊢
  have hu' : u < 18446744073709551616 := by rw [hu]; exact Nat.mod_lt _ (by omega)
  have hv' : v < 18446744073709551616 := by rw [hv]; exact Nat.mod_lt _ (by omega)
  rw [be8_eq u, be8_eq v, cmp_be 8 u v (Nat.lt_of_lt_of_eq hu' (by decide)) (Nat.lt_of_lt_of_eq hv' (by decide))]
  unfold cmpI
  by_cases h1 : u < v
  · rw [if_pos h1, if_pos (by omega)]
  · rw [if_neg h1, if_neg (show ¬ n < m by omega)]
    by_cases h2 : v < u
    · rw [if_pos h2, if_pos (by omega)]
    · rw [if_neg h2, if_neg (by omega)]
theorem cmp_text (x y : List UInt8) : cmpB (Cell.esc x ++ [0, 0]) (Cell.esc y ++ [0, 0]) = cmpB x y := by
  by_cases h : x = y
  · subst h
    rw [cmpB_self, cmpB_self]
  · rw [esc_eq, esc_eq]
    exact cmp_esc x y 0 0 [] [] (by decide) (by decide) h
theorem or3_zero (x y : Int) : or3 0 x y = if x ≠ 0 then x else y := by unfold or3; rw [if_neg (by omega)]
theorem or3_last (x : Int) : or3 0 0 x = x := by unfold or3; rw [if_neg (by omega), if_neg (by omega)]
theorem or3_mid (x : Int) : or3 0 x 0 = x := by
  unfold or3
  rw [if_neg (by omega)]
  split <;> omega

/-- Two keys of one kind. -/
theorem tail_order {a b : Cell.Val} (ha : Cell.rightB a = true) (hb : Cell.rightB b = true) (hk : a.k = b.k) (ba : Bd a) (bb : Bd b) : cmpB (Cell.keyTail a) (Cell.keyTail b) = or3 0 (cmpI a.n b.n) (cmpB a.s.data.toList b.s.data.toList) := by
  have hk' : b.k.toNat = a.k.toNat := by rw [hk]
  unfold Cell.rightB at ha hb
  unfold Cell.keyTail
  rw [hk'] at hb ⊢
  match hkk : a.k.toNat, ha, hb with
  | 0, ha, hb =>
    simp only [Bool.and_eq_true, decide_eq_true_eq] at ha hb
    rw [ha.1, hb.1, empty_list ha.2, empty_list hb.2]
    rfl
  | 1, ha, hb =>
    simp only [Bool.and_eq_true, Bool.or_eq_true, decide_eq_true_eq] at ha hb
    rw [empty_list ha.2, empty_list hb.2, show cmpB [] [] = 0 from rfl, or3_mid]
    rcases ha.1 with h1 | h1 <;> rcases hb.1 with h2 | h2 <;> (rw [h1, h2]; rfl)
  | 2, ha, hb =>
    simp only [decide_eq_true_eq] at ha hb
    rw [empty_list ha, empty_list hb, show cmpB [] [] = 0 from rfl, or3_mid]
    exact cmp_num ba.1 ba.2 bb.1 bb.2
  | 3, ha, hb =>
    simp only [decide_eq_true_eq] at ha hb
    rw [empty_list ha, empty_list hb, show cmpB [] [] = 0 from rfl, or3_mid]
    exact cmp_num ba.1 ba.2 bb.1 bb.2
  | 4, ha, hb =>
    simp only [Bool.and_eq_true, decide_eq_true_eq] at ha hb
    rw [ha.1, hb.1, cmpI_eq, or3_last]
    exact cmp_text _ _
  | 5, ha, hb =>
    simp only [Bool.and_eq_true, decide_eq_true_eq] at ha hb
    rw [ha.1, hb.1, cmpI_eq, or3_last]
    exact cmp_text _ _
  | _ + 6, ha, _ => cases ha
theorem key_order {a b : Cell.Val} {k l : List UInt8} (ha : Cell.key a = (0, k)) (hb : Cell.key b = (0, l)) (ba : Bd a) (bb : Bd b) : cmpB k l = ordV a b := by
  obtain ⟨ra, rfl⟩ := key_form ha
  obtain ⟨rb, rfl⟩ := key_form hb
  unfold ordV
  simp only [cmpB]
  by_cases h1 : a.k < b.k
  · rw [if_pos h1, cmpI_lt (by rw [UInt8.lt_iff_toNat_lt] at h1; omega)]
    unfold or3
    rw [if_pos (by omega)]
  · rw [if_neg h1]
    by_cases h2 : b.k < a.k
    · rw [if_pos h2, cmpI_gt (by rw [UInt8.lt_iff_toNat_lt] at h2; omega)]
      unfold or3
      rw [if_pos (by omega)]
    · rw [if_neg h2]
      have hk : a.k = b.k := by
        rw [UInt8.lt_iff_toNat_lt] at h1 h2
        exact UInt8.toNat_inj.1 (by omega)
      rw [tail_order ra rb hk ba bb, hk, cmpI_eq]
theorem keyTail_len (a : Cell.Val) (h : a.k.toNat ≤ 3) : (Cell.keyTail a).length = (if a.k.toNat = 0 then 0 else if a.k.toNat = 1 then 1 else 8) := by
  unfold Cell.keyTail
  match hk : a.k.toNat, h with
  | 0, _ => rfl
  | 1, _ => rfl
  | 2, _ => rfl
  | 3, _ => rfl
theorem key_prefix {a b : Cell.Val} {k l r : List UInt8} (ha : Cell.key a = (0, k)) (hb : Cell.key b = (0, l)) (ba : Bd a) (bb : Bd b) (x : List UInt8) (hp : l ++ r = k ++ x) : a = b ∧ r = x := by
  obtain ⟨ra, rfl⟩ := key_form ha
  obtain ⟨rb, rfl⟩ := key_form hb
  simp only [List.cons_append, List.cons.injEq] at hp
  obtain ⟨hk, hp⟩ := hp
  have h5 := Cell.right_kind ra
  have done : Cell.keyTail b = Cell.keyTail a → a = b ∧ r = x := by
    intro he
    have hc := tail_order ra rb hk.symm ba bb
    rw [he, cmpB_self] at hc
    refine ⟨ordV_zero ?_, ?_⟩
    · unfold ordV
      rw [hk, cmpI_eq]
      exact hc.symm
    · rw [he] at hp
      exact List.append_cancel_left hp
  by_cases h3 : a.k.toNat ≤ 3
  · have hl : (Cell.keyTail b).length = (Cell.keyTail a).length := by rw [keyTail_len a h3, keyTail_len b (by rw [hk]; exact h3), hk]
    exact done (List.append_inj_left hp hl)
  · have ha4 : Cell.keyTail a = Cell.esc (Cell.txt a) ++ [0, 0] := by
      unfold Cell.keyTail
      rcases (show a.k.toNat = 4 ∨ a.k.toNat = 5 by omega) with h | h <;> simp only [h]
    have hb4 : Cell.keyTail b = Cell.esc (Cell.txt b) ++ [0, 0] := by
      unfold Cell.keyTail
      rcases (show b.k.toNat = 4 ∨ b.k.toNat = 5 by rw [hk]; omega) with h | h <;> simp only [h]
    rw [ha4, hb4, List.append_assoc, List.append_assoc, esc_eq, esc_eq] at hp
    have he : Cell.txt b = Cell.txt a := by
      apply Classical.byContradiction
      intro hne
      have := cmp_esc (Cell.txt b) (Cell.txt a) 0 0 r x (by decide) (by decide) hne
      simp only [List.cons_append, List.nil_append] at hp
      rw [hp, cmpB_self] at this
      exact hne ((cmpB_zero _ _).1 this.symm)
    exact done (by rw [ha4, hb4, he])
end Go.Proofs.Ytccapkkaeljnfaa
