/-
  The walks of chanceryref19.letter, digit, Reserved, Name: they are Lex.reserved, Lex.name. Conditions: the text is within the reach.
-/
import Derived.Test.YtfoolkjamadfdaaAwake19
import Derived.Lib.Index
namespace Go.Proofs.Ytfoolkjamadfdaa
open Go.RowKit

theorem rletter_any (c : UInt8) (w : World) : Calls Try.prog 20 #[.int .u8 (c.toNat : Int)] w fun e w' => e = .returned (.bool (Lex.letter c)) ∧ w = w' := by
  have hc := c.toNat_lt
  by_cases h1 : 97 ≤ c.toNat
  · go_enter Try.func20, Try.ntmps20
    go_wp2
    all_goals
      go_ret
      refine ⟨?_, rfl⟩
      unfold Lex.letter
      exact ret_b (by rw [Bool.eq_iff_iff]; simp; omega)
  · go_enter Try.func20, Try.ntmps20
    go_wp2
    all_goals
      go_ret
      refine ⟨?_, rfl⟩
      unfold Lex.letter
      exact ret_b (by rw [Bool.eq_iff_iff]; simp; omega)
theorem rdigit_any (c : UInt8) (w : World) : Calls Try.prog 21 #[.int .u8 (c.toNat : Int)] w fun e w' => e = .returned (.bool (Lex.digit c)) ∧ w = w' := by
  have hc := c.toNat_lt
  by_cases h1 : 48 ≤ c.toNat
  · go_enter Try.func21, Try.ntmps21
    go_wp2
    all_goals
      go_ret
      refine ⟨?_, rfl⟩
      unfold Lex.digit
      exact ret_b (by rw [Bool.eq_iff_iff]; simp; omega)
  · go_enter Try.func21, Try.ntmps21
    go_wp2
    all_goals
      go_ret
      refine ⟨?_, rfl⟩
      unfold Lex.digit
      exact ret_b (by rw [Bool.eq_iff_iff]; simp; omega)

def az (c : UInt8) : Prop := 97 ≤ c.toNat ∧ c.toNat ≤ 122
instance (c : UInt8) : Decidable (az c) := by unfold az; infer_instance
theorem words_all : ∀ c ∈ Lex.words, az c ∨ c = 32 := by decide +kernel
theorem words_len : Lex.words.length = 347 := by decide +kernel
def notBlank (c : UInt8) : Bool := decide (c ≠ 32)
theorem words_runs : ∀ i, i < 347 → Lex.span notBlank (Lex.words.drop (i + 1)) ≤ 24 := by decide +kernel
theorem contains_of {s sub : List UInt8} {i : Nat} (hi : i ≤ s.length) (h : Lib.occAt s sub i = true) : Lib.contains s sub = true := by
  unfold Lib.contains
  rw [decide_eq_true_eq]
  have : ∃ k, k ≤ i ∧ Lib.occAt s sub k = true ∧ ∀ j, j < k → Lib.occAt s sub j = false := by
    clear hi
    induction i using Nat.strongRecOn with
    | _ i ih =>
      by_cases hx : ∃ j, j < i ∧ Lib.occAt s sub j = true
      · obtain ⟨j, hj, ho⟩ := hx
        obtain ⟨k, h1, h2, h3⟩ := ih j hj ho
        exact ⟨k, by omega, h2, h3⟩
      · refine ⟨i, Nat.le_refl _, h, fun j hj => ?_⟩
        cases hb : Lib.occAt s sub j with
        | false => rfl
        | true => exact absurd ⟨j, hj, hb⟩ hx
  obtain ⟨k, h1, h2, h3⟩ := this
  rw [Lib.index_first (by omega) h2 h3]
  omega
theorem contains_not {s sub : List UInt8} (h : ∀ j, j ≤ s.length → Lib.occAt s sub j = false) : Lib.contains s sub = false := by
  unfold Lib.contains
  rw [Lib.index_none h]
  rfl
theorem contains_occ {s sub : List UInt8} (h : Lib.contains s sub = true) : ∃ i, i ≤ s.length ∧ Lib.occAt s sub i = true := by
  apply Classical.byContradiction
  intro hn
  rw [contains_not (fun j hj => by
    cases hb : Lib.occAt s sub j with
    | false => rfl
    | true => exact absurd ⟨j, hj, hb⟩ hn)] at h
  cases h
theorem occ_eq {s sub : List UInt8} {i : Nat} (h : Lib.occAt s sub i = true) : ∃ r, s.drop i = sub ++ r := by
  unfold Lib.occAt at h
  obtain ⟨r, hr⟩ := List.isPrefixOf_iff_prefix.1 h
  exact ⟨r, hr.symm⟩
theorem span_all {p : UInt8 → Bool} : ∀ (l : List UInt8), (∀ c ∈ l, p c = true) → Lex.span p l = l.length := by
  intro l
  induction l with
  | nil => intro _; rfl
  | cons c l ih =>
    intro h
    simp only [Lex.span, List.length_cons]
    rw [if_pos (h c (by simp)), ih (fun d hd => h d (by simp [hd]))]
theorem span_app {p : UInt8 → Bool} (x : UInt8) (r : List UInt8) (hx : p x = false) : ∀ (l : List UInt8), (∀ c ∈ l, p c = true) → Lex.span p (l ++ x :: r) = l.length := by
  intro l
  induction l with
  | nil => intro _; simp only [List.nil_append, Lex.span]; rw [if_neg (by simp [hx])]; rfl
  | cons c l ih =>
    intro h
    simp only [List.cons_append, Lex.span, List.length_cons]
    rw [if_pos (h c (by simp)), ih (fun d hd => h d (by simp [hd]))]
theorem span_full {p : UInt8 → Bool} : ∀ (l : List UInt8), Lex.span p l = l.length → ∀ c ∈ l, p c = true := by
  intro l
  induction l with
  | nil => intro _ c hc; cases hc
  | cons d l ih =>
    intro h c hc
    simp only [Lex.span, List.length_cons] at h
    split at h
    · rename_i hd
      rcases List.mem_cons.1 hc with rfl | hc
      · exact hd
      · exact ih (by omega) c hc
    · omega
/-- The document's reserved words are the code's. -/
theorem reserved_ref (l : List UInt8) : Lex.reserved l = (decide (∀ c ∈ l, az c) && (decide (0 < l.length) && Lib.contains Lex.words (32 :: (l ++ [32])))) := by
  unfold Lex.reserved
  cases hc : Lib.contains Lex.words (32 :: (l ++ [32])) with
  | false => simp
  | true =>
    simp only [Bool.and_true]
    obtain ⟨i, hi, ho⟩ := contains_occ hc
    obtain ⟨r, hr⟩ := occ_eq ho
    have hmem : ∀ c ∈ l, az c ∨ c = 32 := by
      intro c hcm
      apply words_all
      have : c ∈ Lex.words.drop i := by rw [hr]; simp [hcm]
      exact List.mem_of_mem_drop this
    rw [Bool.eq_iff_iff]
    constructor
    · intro hw
      unfold Lex.word at hw
      simp only [Bool.and_eq_true, decide_eq_true_eq] at hw
      obtain ⟨h1, h2, h3, h4⟩ := hw
      simp only [Bool.and_eq_true, decide_eq_true_eq]
      refine ⟨fun c hcm => ?_, by omega⟩
      rcases hmem c hcm with h | h
      · exact h
      · have := span_full l h4 c hcm
        subst h
        simp [Lex.inWord, Lex.letter, Lex.digit] at this
    · intro hw
      simp only [Bool.and_eq_true, decide_eq_true_eq] at hw
      obtain ⟨haz, hpos⟩ := hw
      have hil : i < 347 := by
        have := congrArg List.length hr
        rw [List.length_drop, words_len] at this
        simp at this
        omega
      have hlen : l.length ≤ 24 := by
        have h1 := words_runs i hil
        have h2 : Lex.words.drop (i + 1) = l ++ 32 :: r := by
          rw [← List.drop_drop, hr]
          simp
        rw [h2, span_app 32 r (by decide) l (fun c hcm => by
          have := haz c hcm
          unfold notBlank
          rw [decide_eq_true_eq]
          rintro rfl
          unfold az at this
          simp at this)] at h1
        exact h1
      unfold Lex.word
      simp only [Bool.and_eq_true, decide_eq_true_eq]
      refine ⟨hpos, hlen, ?_, span_all l fun c hcm => ?_⟩
      · cases l with
        | nil => simp at hpos
        | cons c l =>
          have this : 97 ≤ c.toNat ∧ c.toNat ≤ 122 := haz c (by simp)
          simp only [Lex.letter]
          rw [decide_eq_true this]
          rfl
      · have this : 97 ≤ c.toNat ∧ c.toNat ≤ 122 := haz c hcm
        unfold Lex.inWord Lex.letter
        rw [decide_eq_true this]
        rfl

theorem res_bad {l : List UInt8} {c : UInt8} (hc : c ∈ l) (h : ¬ az c) : Lex.reserved l = false := by
  rw [reserved_ref, decide_eq_false (fun ha => h (ha c hc))]
  rfl
theorem res_all {l : List UInt8} (h : ∀ c ∈ l, az c) : Lex.reserved l = (decide (0 < l.length) && Lib.contains Lex.words (32 :: (l ++ [32]))) := by
  rw [reserved_ref, decide_eq_true h, Bool.true_and]

set_option maxRecDepth 100000 in
theorem occ_lit (s : ByteArray) (k : Nat) (h : k + (s.size + 2) ≤ 347) : ((⟨#[32, 97, 99, 116, 105, 111, 110, 32, 97, 100, 100, 32, 97, 108, 108, 32, 97, 110, 100, 32, 97, 115, 32, 97, 115, 99, 32, 98, 101, 103, 105, 110, 32, 98, 111, 111, 108, 32, 98, 121, 116, 101, 115, 32, 99, 97, 115, 99, 97, 100, 101, 32, 99, 104, 101, 99, 107, 32, 99, 111, 109, 109, 105, 116, 32, 99, 111, 117, 110, 116, 32, 99, 114, 101, 97, 116, 101, 32, 100, 101, 99, 32, 100, 101, 108, 101, 116, 101, 32, 100, 101, 115, 99, 32, 100, 114, 111, 112, 32, 102, 97, 108, 115, 101, 32, 102, 114, 111, 109, 32, 103, 114, 97, 110, 116, 32, 103, 114, 111, 117, 112, 32, 98, 121, 32, 105, 110, 115, 101, 114, 116, 32, 105, 110, 116, 32, 105, 110, 116, 111, 32, 105, 115, 32, 106, 111, 105, 110, 32, 107, 101, 121, 32, 108, 105, 109, 105, 116, 32, 109, 97, 120, 32, 109, 105, 110, 32, 110, 111, 116, 32, 110, 117, 108, 108, 32, 111, 110, 32, 111, 112, 116, 105, 111, 110, 32, 111, 114, 32, 111, 114, 100, 101, 114, 32, 112, 111, 108, 105, 99, 121, 32, 112, 114, 105, 109, 97, 114, 121, 32, 114, 101, 102, 101, 114, 101, 110, 99, 101, 115, 32, 114, 101, 115, 116, 114, 105, 99, 116, 32, 114, 101, 118, 111, 107, 101, 32, 114, 111, 108, 101, 32, 114, 111, 108, 108, 98, 97, 99, 107, 32, 115, 101, 108, 101, 99, 116, 32, 115, 101, 116, 32, 115, 117, 109, 32, 116, 97, 98, 108, 101, 32, 116, 101, 120, 116, 32, 116, 111, 32, 116, 114, 105, 103, 103, 101, 114, 32, 116, 114, 117, 101, 32, 117, 110, 105, 113, 117, 101, 32, 117, 112, 100, 97, 116, 101, 32, 117, 115, 101, 114, 32, 117, 115, 105, 110, 103, 32, 118, 97, 108, 117, 101, 115, 32, 118, 105, 101, 119, 32, 119, 104, 101, 114, 101, 32, 119, 105, 116, 104, 32, 97, 102, 116, 101, 114, 32]⟩ : ByteArray).extract k (k + (s.size + 2))).toList = ((⟨#[32]⟩ : ByteArray) ++ s ++ ⟨#[32]⟩).toList ↔ Lib.occAt Lex.words (32 :: (s.data.toList ++ [32])) k = true := by
  have e0 : (⟨#[32, 97, 99, 116, 105, 111, 110, 32, 97, 100, 100, 32, 97, 108, 108, 32, 97, 110, 100, 32, 97, 115, 32, 97, 115, 99, 32, 98, 101, 103, 105, 110, 32, 98, 111, 111, 108, 32, 98, 121, 116, 101, 115, 32, 99, 97, 115, 99, 97, 100, 101, 32, 99, 104, 101, 99, 107, 32, 99, 111, 109, 109, 105, 116, 32, 99, 111, 117, 110, 116, 32, 99, 114, 101, 97, 116, 101, 32, 100, 101, 99, 32, 100, 101, 108, 101, 116, 101, 32, 100, 101, 115, 99, 32, 100, 114, 111, 112, 32, 102, 97, 108, 115, 101, 32, 102, 114, 111, 109, 32, 103, 114, 97, 110, 116, 32, 103, 114, 111, 117, 112, 32, 98, 121, 32, 105, 110, 115, 101, 114, 116, 32, 105, 110, 116, 32, 105, 110, 116, 111, 32, 105, 115, 32, 106, 111, 105, 110, 32, 107, 101, 121, 32, 108, 105, 109, 105, 116, 32, 109, 97, 120, 32, 109, 105, 110, 32, 110, 111, 116, 32, 110, 117, 108, 108, 32, 111, 110, 32, 111, 112, 116, 105, 111, 110, 32, 111, 114, 32, 111, 114, 100, 101, 114, 32, 112, 111, 108, 105, 99, 121, 32, 112, 114, 105, 109, 97, 114, 121, 32, 114, 101, 102, 101, 114, 101, 110, 99, 101, 115, 32, 114, 101, 115, 116, 114, 105, 99, 116, 32, 114, 101, 118, 111, 107, 101, 32, 114, 111, 108, 101, 32, 114, 111, 108, 108, 98, 97, 99, 107, 32, 115, 101, 108, 101, 99, 116, 32, 115, 101, 116, 32, 115, 117, 109, 32, 116, 97, 98, 108, 101, 32, 116, 101, 120, 116, 32, 116, 111, 32, 116, 114, 105, 103, 103, 101, 114, 32, 116, 114, 117, 101, 32, 117, 110, 105, 113, 117, 101, 32, 117, 112, 100, 97, 116, 101, 32, 117, 115, 101, 114, 32, 117, 115, 105, 110, 103, 32, 118, 97, 108, 117, 101, 115, 32, 118, 105, 101, 119, 32, 119, 104, 101, 114, 101, 32, 119, 105, 116, 104, 32, 97, 102, 116, 101, 114, 32]⟩ : ByteArray).data.toList = Lex.words := by kernel_rfl
  have e1 : (⟨#[32, 97, 99, 116, 105, 111, 110, 32, 97, 100, 100, 32, 97, 108, 108, 32, 97, 110, 100, 32, 97, 115, 32, 97, 115, 99, 32, 98, 101, 103, 105, 110, 32, 98, 111, 111, 108, 32, 98, 121, 116, 101, 115, 32, 99, 97, 115, 99, 97, 100, 101, 32, 99, 104, 101, 99, 107, 32, 99, 111, 109, 109, 105, 116, 32, 99, 111, 117, 110, 116, 32, 99, 114, 101, 97, 116, 101, 32, 100, 101, 99, 32, 100, 101, 108, 101, 116, 101, 32, 100, 101, 115, 99, 32, 100, 114, 111, 112, 32, 102, 97, 108, 115, 101, 32, 102, 114, 111, 109, 32, 103, 114, 97, 110, 116, 32, 103, 114, 111, 117, 112, 32, 98, 121, 32, 105, 110, 115, 101, 114, 116, 32, 105, 110, 116, 32, 105, 110, 116, 111, 32, 105, 115, 32, 106, 111, 105, 110, 32, 107, 101, 121, 32, 108, 105, 109, 105, 116, 32, 109, 97, 120, 32, 109, 105, 110, 32, 110, 111, 116, 32, 110, 117, 108, 108, 32, 111, 110, 32, 111, 112, 116, 105, 111, 110, 32, 111, 114, 32, 111, 114, 100, 101, 114, 32, 112, 111, 108, 105, 99, 121, 32, 112, 114, 105, 109, 97, 114, 121, 32, 114, 101, 102, 101, 114, 101, 110, 99, 101, 115, 32, 114, 101, 115, 116, 114, 105, 99, 116, 32, 114, 101, 118, 111, 107, 101, 32, 114, 111, 108, 101, 32, 114, 111, 108, 108, 98, 97, 99, 107, 32, 115, 101, 108, 101, 99, 116, 32, 115, 101, 116, 32, 115, 117, 109, 32, 116, 97, 98, 108, 101, 32, 116, 101, 120, 116, 32, 116, 111, 32, 116, 114, 105, 103, 103, 101, 114, 32, 116, 114, 117, 101, 32, 117, 110, 105, 113, 117, 101, 32, 117, 112, 100, 97, 116, 101, 32, 117, 115, 101, 114, 32, 117, 115, 105, 110, 103, 32, 118, 97, 108, 117, 101, 115, 32, 118, 105, 101, 119, 32, 119, 104, 101, 114, 101, 32, 119, 105, 116, 104, 32, 97, 102, 116, 101, 114, 32]⟩ : ByteArray).size = 347 := by kernel_rfl
  obtain ⟨W, hW⟩ : ∃ W : ByteArray, W = (⟨#[32, 97, 99, 116, 105, 111, 110, 32, 97, 100, 100, 32, 97, 108, 108, 32, 97, 110, 100, 32, 97, 115, 32, 97, 115, 99, 32, 98, 101, 103, 105, 110, 32, 98, 111, 111, 108, 32, 98, 121, 116, 101, 115, 32, 99, 97, 115, 99, 97, 100, 101, 32, 99, 104, 101, 99, 107, 32, 99, 111, 109, 109, 105, 116, 32, 99, 111, 117, 110, 116, 32, 99, 114, 101, 97, 116, 101, 32, 100, 101, 99, 32, 100, 101, 108, 101, 116, 101, 32, 100, 101, 115, 99, 32, 100, 114, 111, 112, 32, 102, 97, 108, 115, 101, 32, 102, 114, 111, 109, 32, 103, 114, 97, 110, 116, 32, 103, 114, 111, 117, 112, 32, 98, 121, 32, 105, 110, 115, 101, 114, 116, 32, 105, 110, 116, 32, 105, 110, 116, 111, 32, 105, 115, 32, 106, 111, 105, 110, 32, 107, 101, 121, 32, 108, 105, 109, 105, 116, 32, 109, 97, 120, 32, 109, 105, 110, 32, 110, 111, 116, 32, 110, 117, 108, 108, 32, 111, 110, 32, 111, 112, 116, 105, 111, 110, 32, 111, 114, 32, 111, 114, 100, 101, 114, 32, 112, 111, 108, 105, 99, 121, 32, 112, 114, 105, 109, 97, 114, 121, 32, 114, 101, 102, 101, 114, 101, 110, 99, 101, 115, 32, 114, 101, 115, 116, 114, 105, 99, 116, 32, 114, 101, 118, 111, 107, 101, 32, 114, 111, 108, 101, 32, 114, 111, 108, 108, 98, 97, 99, 107, 32, 115, 101, 108, 101, 99, 116, 32, 115, 101, 116, 32, 115, 117, 109, 32, 116, 97, 98, 108, 101, 32, 116, 101, 120, 116, 32, 116, 111, 32, 116, 114, 105, 103, 103, 101, 114, 32, 116, 114, 117, 101, 32, 117, 110, 105, 113, 117, 101, 32, 117, 112, 100, 97, 116, 101, 32, 117, 115, 101, 114, 32, 117, 115, 105, 110, 103, 32, 118, 97, 108, 117, 101, 115, 32, 118, 105, 101, 119, 32, 119, 104, 101, 114, 101, 32, 119, 105, 116, 104, 32, 97, 102, 116, 101, 114, 32]⟩ : ByteArray) := ⟨_, rfl⟩
  rw [← hW] at e0 e1 ⊢
  have hl : (32 :: (s.data.toList ++ [32])).length = s.size + 2 := by rw [List.length_cons, List.length_append, str_len]; rfl
  rw [Lib.occAt_iff_take _ _ _ (by rw [words_len, hl]; omega), hl, beq_iff_eq, ByteArray.toList_eq, ByteArray.toList_eq, blanks, extract_eq _ _ _ (by rw [e1]; omega), e0, show k + (s.size + 2) - k = s.size + 2 by omega]
set_option maxRecDepth 100000 in
set_option maxHeartbeats 1600000 in
theorem rreserved_any (s : ByteArray) (w : World) (hm : s.size ≤ 140737488355328) : Calls Try.prog 13 #[.string s] w fun e w' => e = .returned (.bool (Lex.reserved s.data.toList)) ∧ w = w' := by
  have HL := hide (str_len s)
  obtain ⟨b, hb⟩ : ∃ b, b = Lex.reserved s.data.toList := ⟨_, rfl⟩
  rw [← hb]
  have HB := hide hb
  clear hb
  go_enter Try.func13, Try.ntmps13
  go_wp2_with fail
  go_loop [3] (fun i => ∃ k : Nat, i = .int .i64 (k : Nat) ∧ k ≤ s.size ∧ Hid (∀ c ∈ s.data.toList.take k, az c)) (fun i => s.size - (intOf i).toNat)
  case atStart => exact ⟨0, rfl, by omega, fun c hc => by simp at hc⟩
  case round =>
    obtain ⟨k, rfl, hk, HK⟩ := hrel
    by_cases hlt : k < s.size
    · obtain ⟨c, hc, hs⟩ := str_at hlt
      have hkI : (k : Int) < (s.size : Int) := by omega
      have hcl := c.toNat_lt
      by_cases haz : az c
      · have HN : Hid (∀ c ∈ s.data.toList.take (k + 1), az c) := by
          intro d hd
          rw [← take_snoc _ k c hc] at hd
          rcases List.mem_append.1 hd with h | h
          · exact HK.out d h
          · rw [List.mem_singleton.1 h]
            exact haz
        obtain ⟨h1, h2⟩ := haz
        have t1 : decide ((c.toNat : Int) < 97) = false := by simp; omega
        have t2 : decide ((122 : Int) < (c.toNat : Int)) = false := by simp; omega
        clear hc h1 h2
        go_wp2_with fail
        go_round
        case rel => exact ⟨k + 1, by go_num, by omega, HN.out⟩
        case measure => simp [intOf]; omega
      · have HF : Hid (b = false) := HB.out.trans (res_bad (List.mem_of_getElem? hc) haz)
        by_cases h1 : c.toNat < 97
        · have t1 : decide ((c.toNat : Int) < 97) = true := by simp; omega
          clear hc haz h1
          go_wp2_with fail
          go_ret
          exact ⟨by rw [HF.out]; rfl, rfl⟩
        · have t1 : decide ((c.toNat : Int) < 97) = false := by simp; omega
          have t2 : decide ((122 : Int) < (c.toNat : Int)) = true := by
            unfold az at haz
            simp
            omega
          clear hc haz h1
          go_wp2_with fail
          go_ret
          exact ⟨by rw [HF.out]; rfl, rfl⟩
    · obtain rfl : k = s.size := by omega
      have HA : Hid (b = (decide (0 < s.size) && Lib.contains Lex.words (32 :: (s.data.toList ++ [32])))) := by
        have := HK.out
        rw [List.take_of_length_le (by rw [HL.out]; exact Nat.le_refl _)] at this
        have h2 := HB.out.trans (res_all this)
        rw [HL.out] at h2
        exact h2
      clear HB HK
      go_wp2_with fail
      go_loop [5] (fun i => ∃ k : Nat, i = .int .i64 (k : Nat) ∧ k ≤ 347 ∧ Hid (∀ j, j < k → Lib.occAt Lex.words (32 :: (s.data.toList ++ [32])) j = false)) (fun i => 347 - (intOf i).toNat)
      case atStart => exact ⟨0, rfl, by omega, fun j hj => absurd hj (by omega)⟩
      case round =>
        obtain ⟨k, rfl, hk, HK⟩ := hrel
        by_cases hpos : 0 < s.size
        · by_cases hroom : k + (s.size + 2) ≤ 347
          · have t1 : decide ((0 : Int) < (s.size : Int)) = true := by simp; omega
            have t2 : decide ((k : Int) + ((s.size : Int) + 2) ≤ 347) = true := by simp; omega
            by_cases ho : Lib.occAt Lex.words (32 :: (s.data.toList ++ [32])) k = true
            · have t3 := (occ_lit s k hroom).2 ho
              have HF : Hid (b = true) := HA.out.trans (by rw [decide_eq_true hpos, contains_of (by rw [words_len]; omega) ho]; rfl)
              clear ho
              go_wp2_with fail
              go_ret
              exact ⟨by rw [HF.out]; rfl, rfl⟩
            · have t3 : ¬ (_ = _) := fun h => ho ((occ_lit s k hroom).1 h)
              have t4 := beq_eq_false_iff_ne.2 t3
              have HN : Hid (∀ j, j < k + 1 → Lib.occAt Lex.words (32 :: (s.data.toList ++ [32])) j = false) := by
                intro j hj
                rcases Nat.lt_or_ge j k with h | h
                · exact HK.out j h
                · obtain rfl : j = k := by omega
                  simpa using ho
              clear ho
              go_wp2_with fail
              go_round
              case rel => exact ⟨k + 1, by go_num, by omega, HN.out⟩
              case measure => simp [intOf]; omega
          · have t1 : decide ((0 : Int) < (s.size : Int)) = true := by simp; omega
            have t2 : decide ((k : Int) + ((s.size : Int) + 2) ≤ 347) = false := by simp; omega
            have HF : Hid (b = false) := HA.out.trans (by
              rw [contains_not, Bool.and_false]
              intro j hj
              rcases Nat.lt_or_ge j k with h | h
              · exact HK.out j h
              · cases ho : Lib.occAt Lex.words (32 :: (s.data.toList ++ [32])) j with
                | false => rfl
                | true =>
                  rcases Lib.occAt_room ho with h2 | h2
                  · rw [words_len] at h2
                    have := str_len s
                    simp at h2
                    omega
                  · simp at h2)
            go_wp2_with fail
            go_ret
            exact ⟨by rw [HF.out]; rfl, rfl⟩
        · have t1 : decide ((0 : Int) < (s.size : Int)) = false := decide_eq_false (by omega)
          have HF : Hid (b = false) := HA.out.trans (by rw [decide_eq_false hpos]; rfl)
          go_wp2_with fail
          go_ret
          exact ⟨by rw [HF.out]; rfl, rfl⟩

theorem name_word (l : List UInt8) (c : UInt8) (hc : l[0]? = some c) (h24 : l.length ≤ 24) (hl : Lex.letter c = true) (hr : Lex.reserved l = false) : Lex.name l = decide (Lex.span Lex.inWord l = l.length) := by
  unfold Lex.name Lex.word
  rw [hr]
  cases l with
  | nil => cases hc
  | cons d r =>
    have : d = c := by simpa using hc
    subst this
    rw [decide_eq_true (p := 1 ≤ (d :: r).length) (by simp), decide_eq_true (p := (d :: r).length ≤ 24) h24]
    simp [hl]
theorem name_not {l : List UInt8} (h : Lex.word l = false ∨ Lex.reserved l = true) : Lex.name l = false := by
  unfold Lex.name
  rcases h with h | h <;> simp [h]
theorem word_let {l : List UInt8} {c : UInt8} (hc : l[0]? = some c) (h : Lex.letter c = false) : Lex.word l = false := by
  cases l with
  | nil => cases hc
  | cons d r =>
    have : d = c := by simpa using hc
    subst this
    unfold Lex.word
    simp [h]
theorem str_empty (s : ByteArray) (h : s.size = 0) : s.toList = [] := by
  rw [ByteArray.toList_eq]
  exact List.eq_nil_of_length_eq_zero (by rw [str_len]; exact h)

set_option maxHeartbeats 1600000 in
theorem rname_any (s : ByteArray) (w : World) (hm : s.size ≤ 140737488355328) : Calls Try.prog 11 #[.string s] w fun e w' => e = .returned (.bool (Lex.name s.data.toList)) ∧ w = w' := by
  have HL := hide (str_len s)
  obtain ⟨b, hb⟩ : ∃ b, b = Lex.name s.data.toList := ⟨_, rfl⟩
  rw [← hb]
  have HB := hide hb
  have HM := hide hm
  clear hb
  by_cases h0 : s.size = 0
  · have HF : Hid (b = false) := HB.out.trans (name_not (Or.inl (by unfold Lex.word; rw [decide_eq_false (by rw [HL.out]; omega)]; rfl)))
    have t1 := str_empty s h0
    clear h0
    go_enter Try.func11, Try.ntmps11
    go_wp2_with fail
    go_ret
    exact ⟨by rw [HF.out]; rfl, rfl⟩
  have t1 : s.toList.isEmpty = false := by
    rw [ByteArray.toList_eq]
    cases hd : s.data.toList with
    | nil => have := HL.out; rw [hd] at this; simp at this; omega
    | cons c l => rfl
  have t1b : ¬ s.toList = [] := by intro h; rw [h] at t1; cases t1
  by_cases h24 : 24 < s.size
  · have HF : Hid (b = false) := HB.out.trans (name_not (Or.inl (by unfold Lex.word; rw [decide_eq_false (p := s.data.toList.length ≤ 24) (by rw [HL.out]; omega)]; simp)))
    have t2 : decide ((24 : Int) < (s.size : Int)) = true := by simp; omega
    clear h0 h24
    go_enter Try.func11, Try.ntmps11
    go_wp2_with fail
    go_ret
    exact ⟨by rw [HF.out]; rfl, rfl⟩
  have t2 : decide ((24 : Int) < (s.size : Int)) = false := by simp; omega
  have hpos : 0 < s.size := by omega
  obtain ⟨c, hc, hs⟩ := str_at hpos
  have hI : (0 : Int) < (s.size : Int) := by omega
  have hcl := c.toNat_lt
  have HC := hide hc
  have hsz : s.size ≤ 24 := by omega
  clear hc h0 h24 hm
  go_enter Try.func11, Try.ntmps11
  go_wp2_with fail
  with_reducible refine (rletter_any c _).mono ?_
  rintro e w' ⟨rfl, rfl⟩
  cases hlet : Lex.letter c with
  | false =>
    have HF : Hid (b = false) := HB.out.trans (name_not (Or.inl (word_let HC.out hlet)))
    clear hlet
    go_wp2_with fail
    go_ret
    exact ⟨by rw [HF.out]; rfl, rfl⟩
  | true =>
    have HLt := hide hlet
    clear hlet
    go_wp2_with fail
    with_reducible refine (rreserved_any s _ HM.out).mono ?_
    rintro e w' ⟨rfl, rfl⟩
    cases hres : Lex.reserved s.data.toList with
    | true =>
      have HF : Hid (b = false) := HB.out.trans (name_not (Or.inr hres))
      clear hres
      go_wp2_with fail
      go_ret
      exact ⟨by rw [HF.out]; rfl, rfl⟩
    | false =>
      have HN := hide (HB.out.trans (name_word _ c HC.out (by rw [HL.out]; exact hsz) HLt.out hres))
      clear hres HB
      go_wp2_with fail
      go_loop [3] (fun i => ∃ k : Nat, i = .int .i64 (k : Nat) ∧ 1 ≤ k ∧ k ≤ s.size ∧ Hid (∀ j d, j < k → s.data.toList[j]? = some d → Lex.inWord d = true)) (fun i => s.size - (intOf i).toNat)
      case atStart =>
        refine ⟨1, rfl, by omega, by omega, fun j d hj hd => ?_⟩
        obtain rfl : j = 0 := by omega
        rw [HC.out] at hd
        injection hd with hd
        rw [← hd]
        unfold Lex.inWord
        rw [HLt.out]
        rfl
      case round =>
        obtain ⟨k, rfl, hk1, hk, HK⟩ := hrel
        by_cases hlt : k < s.size
        · obtain ⟨d, hd, hsd⟩ := str_at hlt
          have hkI : (k : Int) < (s.size : Int) := by omega
          have hdl := d.toNat_lt
          have HD := hide hd
          clear hd
          have next : Lex.inWord d = true → ∀ j x, j < k + 1 → s.data.toList[j]? = some x → Lex.inWord x = true := by
            intro h j x hj hx
            rcases Nat.lt_or_ge j k with h2 | h2
            · exact HK.out j x h2 hx
            · obtain rfl : j = k := by omega
              rw [HD.out] at hx
              injection hx with hx
              rw [← hx]
              exact h
          have HNx := hide next
          clear next
          go_wp2_with fail
          with_reducible refine (rletter_any d _).mono ?_
          rintro e w' ⟨rfl, rfl⟩
          cases hl2 : Lex.letter d with
          | true =>
            have HW : Hid (Lex.inWord d = true) := by unfold Lex.inWord; rw [hl2]; rfl
            clear hl2
            go_wp2_with fail
            go_round
            case rel => exact ⟨k + 1, by go_num, by omega, by omega, HNx.out HW.out⟩
            case measure => simp [intOf]; omega
          | false =>
            have HL2 := hide hl2
            clear hl2
            go_wp2_with fail
            with_reducible refine (rdigit_any d _).mono ?_
            rintro e w' ⟨rfl, rfl⟩
            cases hd2 : Lex.digit d with
            | true =>
              have HW : Hid (Lex.inWord d = true) := by show Lex.inWord d = true; unfold Lex.inWord; rw [hd2]; simp
              clear hd2
              go_wp2_with fail
              go_round
              case rel => exact ⟨k + 1, by go_num, by omega, by omega, HNx.out HW.out⟩
              case measure => simp [intOf]; omega
            | false =>
              have HF : Hid (b = false) := HN.out.trans (decide_eq_false (by
                intro h
                have := span_full _ h d (List.mem_of_getElem? HD.out)
                unfold Lex.inWord at this
                rw [HL2.out, hd2] at this
                cases this))
              clear hd2
              go_wp2_with fail
              go_ret
              exact ⟨by rw [HF.out]; rfl, rfl⟩
        · obtain rfl : k = s.size := by omega
          have HF : Hid (b = true) := HN.out.trans (decide_eq_true (span_all _ fun d hd => by
            obtain ⟨j, hj⟩ := List.getElem?_of_mem hd
            exact HK.out j d (by have := (List.getElem?_eq_some_iff.1 hj).1; rw [HL.out] at this; exact this) hj))
          go_wp2_with fail
          go_ret
          exact ⟨by rw [HF.out]; rfl, rfl⟩

set_option maxHeartbeats 1600000 in
theorem lexerNames_any (s : ByteArray) (m : Int) (w : World) (hM : Num w m) (hs : s.size ≤ 140737488355328) : Calls Try.prog 4 #[.string s] w fun e w' => e = .returned (.bool true) ∧ Below w.heap.size w w' := by
  have HM := hide hM
  have HS := hide hs
  have HX : Hid (s.size ≤ maxLen) := by unfold maxLen; show _ ≤ _; omega
  obtain ⟨b1, h1⟩ : ∃ b, b = Lex.name s.data.toList := ⟨_, rfl⟩
  obtain ⟨b2, h2⟩ : ∃ b, b = Lex.reserved s.data.toList := ⟨_, rfl⟩
  have H1 := hide h1
  have H2 := hide h2
  have h3 : b1 = true → b2 = false := by
    rw [h1, h2]
    unfold Lex.name
    intro h
    simp at h
    exact h.2
  have H3 := hide h3
  clear h1 h2 h3 hM hs
  go_enter Try.func4, Try.ntmps4
  go_wp2_with fail
  with_reducible refine (name_any s m _ HX.out HM.out.cell).mono ?_
  rintro e w' ⟨rfl, rfl⟩
  rw [← H1.out]
  go_wp2_with fail
  with_reducible refine (rname_any s _ HS.out).mono ?_
  rintro e w' ⟨rfl, rfl⟩
  rw [← H1.out]
  have q1 : (b1 == b1) = true := by simp
  go_wp2_with fail
  with_reducible refine (reserved_any s m _ HX.out HM.out.cell).mono ?_
  rintro e w' ⟨rfl, rfl⟩
  rw [← H2.out]
  go_wp2_with fail
  with_reducible refine (rreserved_any s _ HS.out).mono ?_
  rintro e w' ⟨rfl, rfl⟩
  rw [← H2.out]
  have q2 : (b2 == b2) = true := by simp
  go_wp2_with fail
  with_reducible refine (name_any s m _ HX.out HM.out.cell).mono ?_
  rintro e w' ⟨rfl, rfl⟩
  rw [← H1.out]
  cases b1 with
  | false =>
    go_wp2_with fail
    with_reducible refine (awake_any m _ HM.out).mono ?_
    rintro e w' ⟨rfl, hb⟩
    have HB := hide hb
    clear hb
    go_wp2_with fail
    go_ret
    exact ⟨rfl, HB.out⟩
  | true =>
    obtain rfl : b2 = false := H3.out rfl
    go_wp2_with fail
    with_reducible refine (reserved_any s m _ HX.out HM.out.cell).mono ?_
    rintro e w' ⟨rfl, rfl⟩
    rw [← H2.out]
    go_wp2_with fail
    with_reducible refine (awake_any m _ HM.out).mono ?_
    rintro e w' ⟨rfl, hb⟩
    have HB := hide hb
    clear hb
    go_wp2_with fail
    go_ret
    exact ⟨rfl, HB.out⟩
end Go.Proofs.Ytfoolkjamadfdaa
