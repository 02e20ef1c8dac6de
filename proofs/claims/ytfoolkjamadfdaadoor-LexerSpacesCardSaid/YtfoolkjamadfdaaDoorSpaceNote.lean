/-
  Plain: a note whose line breaks are replaced by blanks has none, and is as long; how the wide text is put together. Conditions: none. No program is named here.
-/
import Derived.Test.YtfoolkjamadfdaaDoorSpaceMath
import Derived.Lib.Replace
namespace Go.Proofs.YtfoolkjamadfdaaDoor.Lex

theorem index_ten : ∀ s : List UInt8, (Lib.index s [10] = -1 ∧ ∀ c ∈ s, c.toNat ≠ 10) ∨ ∃ i : Nat, Lib.index s [10] = i ∧ i < s.length ∧ ∀ c ∈ s.take i, c.toNat ≠ 10 := by
  intro s
  induction s with
  | nil => exact .inl ⟨rfl, fun c h => by cases h⟩
  | cons b l ih =>
    by_cases hb : b = 10
    · subst hb
      exact .inr ⟨0, by simp [Lib.index, List.isPrefixOf], by simp, fun c h => by simp at h⟩
    · have hn : b.toNat ≠ 10 := fun h => hb (UInt8.toNat_inj.1 h)
      have e : Lib.index (b :: l) [10] = if Lib.index l [10] == -1 then -1 else Lib.index l [10] + 1 := by
        conv => lhs; unfold Lib.index
        rw [if_neg]
        simp [List.isPrefixOf]
        exact fun h => hb h.symm
      rcases ih with ⟨h1, h2⟩ | ⟨i, h1, h2, h3⟩
      · refine .inl ⟨by rw [e, h1]; rfl, fun c hc => ?_⟩
        rcases List.mem_cons.1 hc with rfl | hc
        · exact hn
        · exact h2 c hc
      · refine .inr ⟨i + 1, ?_, by simp; omega, fun c hc => ?_⟩
        · rw [e, h1, if_neg (by simp)]; omega
        · rw [List.take_succ_cons] at hc
          rcases List.mem_cons.1 hc with rfl | hc
          · exact hn
          · exact h3 c hc
theorem replace_ten : ∀ (n : Nat) (s : List UInt8), s.length ≤ n → (Lib.replaceK [10] [32] (Lib.count s [10]) s).length = s.length ∧ ∀ c ∈ Lib.replaceK [10] [32] (Lib.count s [10]) s, c.toNat ≠ 10 := by
  intro n
  induction n with
  | zero =>
    intro s h
    obtain rfl : s = [] := List.eq_nil_of_length_eq_zero (by omega)
    rw [Lib.count_miss (by rfl)]
    exact ⟨rfl, fun c h => by cases h⟩
  | succ n ih =>
    intro s h
    rcases index_ten s with ⟨h1, h2⟩ | ⟨i, h1, h2, h3⟩
    · rw [Lib.count_miss h1]
      exact ⟨rfl, h2⟩
    · rw [Lib.count_hit (by simp) h1, Nat.add_comm, Lib.replaceK_hit _ _ _ _ i h1]
      obtain ⟨i1, i2⟩ := ih (s.drop (i + [(10 : UInt8)].length)) (by rw [List.length_drop]; simp only [List.length_cons, List.length_nil]; omega)
      refine ⟨?_, fun c hc => ?_⟩
      · rw [List.length_append, List.length_append, List.length_take, i1, List.length_drop]
        simp only [List.length_cons, List.length_nil]
        omega
      · rcases List.mem_append.1 hc with hc | hc
        · rcases List.mem_append.1 hc with hc | hc
          · exact h3 c hc
          · rw [List.mem_singleton.1 hc]; decide
        · exact i2 c hc
theorem note_ten (s : List UInt8) : (Lib.replaceAll s [10] [32]).length = s.length ∧ ∀ c ∈ Lib.replaceAll s [10] [32], c.toNat ≠ 10 := by
  have e : Lib.replaceAll s [10] [32] = Lib.replaceK [10] [32] (Lib.count s [10]) s := by
    unfold Lib.replaceAll Lib.replace Lib.replaceNum
    rw [if_neg (by decide), if_pos (.inl (by omega))]
  rw [e]
  exact replace_ten _ s (Nat.le_refl _)
theorem count_ten : ∀ (n : Nat) (s : List UInt8), s.length ≤ n → Lib.count s [10] ≤ s.length := by
  intro n
  induction n with
  | zero =>
    intro s h
    obtain rfl : s = [] := List.eq_nil_of_length_eq_zero (by omega)
    rw [Lib.count_miss (by rfl)]
    omega
  | succ n ih =>
    intro s h
    rcases index_ten s with ⟨h1, h2⟩ | ⟨i, h1, h2, h3⟩
    · rw [Lib.count_miss h1]; omega
    · rw [Lib.count_hit (by simp) h1]
      have := ih (s.drop (i + [(10 : UInt8)].length)) (by rw [List.length_drop]; simp only [List.length_cons, List.length_nil]; omega)
      rw [List.length_drop] at this
      simp only [List.length_cons, List.length_nil] at this ⊢
      omega
/-- The tokens' places rise. -/
def Rise (n : Nat) : List Tok → Prop
  | [] => True
  | t :: r => t.2.2 ≤ endOf n r ∧ endOf n r ≤ n ∧ Rise n r
theorem run_rise : ∀ (n : Nat) (l : List UInt8) (a N : Nat) (ts : List Tok), l.length ≤ n → a + l.length = N → run a l = .ok ts → Rise N ts ∧ a ≤ endOf N ts ∧ endOf N ts ≤ N := by
  intro n
  induction n with
  | zero =>
    intro l a N ts hn hN h
    obtain rfl : l = [] := List.eq_nil_of_length_eq_zero (by omega)
    rw [run_nil rfl] at h
    injection h with h
    subst h
    exact ⟨trivial, by show a ≤ N; omega, Nat.le_refl _⟩
  | succ n ih =>
    intro l a N ts hn hN h
    cases hs : skip false l with
    | nil =>
      rw [run_nil hs] at h
      injection h with h
      subst h
      exact ⟨trivial, by show a ≤ N; omega, Nat.le_refl _⟩
    | cons c r =>
      have hsk := skip_len l false
      rw [hs] at hsk
      cases ht : token (c :: r) with
      | none => rw [run_bad hs ht] at h; cases h
      | some t =>
        obtain ⟨k, s, m⟩ := t
        have hm := token_len ht
        rw [run_some hs ht] at h
        cases hr : run (a + (l.length - (c :: r).length) + m) ((c :: r).drop m) with
        | error e => rw [hr] at h; cases h
        | ok ts' =>
          rw [hr] at h
          injection h with h
          subst h
          have hc0 : 0 < (c :: r).length := by simp
          obtain ⟨i1, i2, i3⟩ := ih ((c :: r).drop m) _ N ts' (by rw [List.length_drop]; omega) (by rw [List.length_drop]; omega) hr
          show Rise N ((k, s, a + (l.length - (c :: r).length)) :: ts') ∧ a ≤ endOf N ((k, s, a + (l.length - (c :: r).length)) :: ts') ∧ endOf N ((k, s, a + (l.length - (c :: r).length)) :: ts') ≤ N
          exact ⟨⟨by show a + (l.length - (c :: r).length) ≤ endOf N ts'; omega, i3, i1⟩, by show a ≤ a + (l.length - (c :: r).length); omega, by show a + (l.length - (c :: r).length) ≤ N; omega⟩
theorem told_rise {T : List UInt8} {ts : List Tok} (h : told T = (ts, 0, 0)) : Rise T.length ts := by
  by_cases hT : 4096 < T.length
  · rw [told_long hT] at h; simp at h
  · rw [told_run T hT] at h
    cases hr : run 0 T with
    | error e => rw [hr] at h; simp at h
    | ok t0 =>
      rw [hr] at h
      simp only [Prod.mk.injEq, and_true] at h
      subst h
      exact (run_rise _ T 0 _ t0 (Nat.le_refl _) (by omega) hr).1
theorem Rise.drop {n : Nat} : ∀ {ts : List Tok} (k : Nat), Rise n ts → Rise n (ts.drop k) := by
  intro ts
  induction ts with
  | nil => intro k _; simp [Rise]
  | cons t r ih =>
    intro k h
    cases k with
    | zero => exact h
    | succ k => exact ih k h.2.2
theorem drop_tok {ts : List Tok} {k : Nat} {t : Tok} (h : ts[k]? = some t) : ts.drop k = t :: ts.drop (k + 1) := by
  obtain ⟨h1, h2⟩ := List.getElem?_eq_some_iff.1 h
  rw [List.drop_eq_getElem_cons h1, h2]
theorem endOf_next {n : Nat} {ts : List Tok} {k : Nat} {t : Tok} (h : ts[k]? = some t) : endOf n (ts.drop k) = t.2.2 := by rw [drop_tok h]; rfl
theorem endOf_last {n : Nat} {ts : List Tok} {k : Nat} (h : ts.length ≤ k) : endOf n (ts.drop k) = n := by rw [List.drop_of_length_le h]; rfl
/-- A round of the loop that puts the text together. -/
theorem wide_round {nt T : List UInt8} {ts : List Tok} {k e : Nat} {t : Tok} {acc : List UInt8} (h : wideOf nt T ts = acc ++ wideOf nt T (ts.drop k)) (ht : ts[k]? = some t) (he : e = endOf T.length (ts.drop (k + 1))) : wideOf nt T ts = (acc ++ [9, 32, 45, 45] ++ nt ++ [10, 32] ++ (T.drop t.2.2).take (e - t.2.2)) ++ wideOf nt T (ts.drop (k + 1)) := by
  subst he
  rw [h, drop_tok ht]
  simp only [wideOf, pad, List.drop_take, List.append_assoc, List.cons_append, List.nil_append]
end Go.Proofs.YtfoolkjamadfdaaDoor.Lex
