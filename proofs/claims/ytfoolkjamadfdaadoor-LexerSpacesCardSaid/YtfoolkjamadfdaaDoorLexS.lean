/-
  The walk of the lexer's sign. Conditions: the text has at most 2^40 bytes.
-/
import Derived.Test.YtfoolkjamadfdaaDoorLexC
namespace Go.Proofs.YtfoolkjamadfdaaDoor
open Go.RowKit

theorem index_iff : ∀ (l : List UInt8) (c : UInt8), 0 ≤ Lib.indexByte l c ↔ c ∈ l := by
  intro l
  induction l with
  | nil => intro c; simp [Lib.indexByte]
  | cons b l ih =>
    intro c
    have h1 := ih c
    have h2 := Lib.indexByte_ge l c
    unfold Lib.indexByte
    by_cases hb : (b == c) = true
    · rw [if_pos hb]
      have : b = c := by simpa using hb
      subst this
      simp
    · rw [if_neg hb]
      have hne : ¬ b = c := by simpa using hb
      have hne' : ¬ c = b := fun e => hne e.symm
      simp only [List.mem_cons, hne', false_or]
      rw [← h1]
      by_cases h3 : (Lib.indexByte l c == -1) = true
      · rw [if_pos h3]
        have h4 : Lib.indexByte l c = -1 := by simpa using h3
        omega
      · rw [if_neg h3]
        have h4 : ¬ Lib.indexByte l c = -1 := by simpa using h3
        omega
theorem index_mem (l : List UInt8) (c : UInt8) : decide (0 ≤ Lib.indexByte l c) = decide (c ∈ l) := decide_eq_decide.2 (index_iff l c)
theorem extract_one (s : ByteArray) (i : Nat) (c : UInt8) (h : s.data.toList[i]? = some c) : s.extract i (i + 1) = ⟨#[c]⟩ := by
  have hl : i < s.data.toList.length := (List.getElem?_eq_some_iff.1 h).1
  rw [extract_eq _ _ _ (by rw [← str_len]; omega), drop_at h, show i + 1 - i = 1 by omega]
  rfl

set_option maxHeartbeats 800000 in
theorem sign_any (text : ByteArray) (at_ : Nat) (w : World) (hm : text.size ≤ 1099511627776) (hat : at_ < text.size) :
    Calls Tryd.prog 23 #[.string text, .int .i64 (at_ : Int)] w (TP w at_ (Lex.signT (text.data.toList.drop at_))) := by
  have HL := hide (str_len text)
  obtain ⟨c, hc, hs⟩ := str_at hat
  have hcl := c.toNat_lt
  obtain ⟨o, ho⟩ : ∃ o, o = Lex.signT (text.data.toList.drop at_) := ⟨_, rfl⟩
  rw [← ho]
  rw [drop_at hc] at ho
  unfold Lex.signT at ho
  simp only [Lex.isAt_drop, Nat.add_zero] at ho
  obtain ⟨v62, h62⟩ : ∃ b, b = Lex.isAt text.data.toList (at_ + 1) 62 := ⟨_, rfl⟩
  obtain ⟨v61, h61⟩ : ∃ b, b = Lex.isAt text.data.toList (at_ + 1) 61 := ⟨_, rfl⟩
  rw [← h62, ← h61, ← drop_at hc] at ho
  have HO := hide ho
  have H62 := hide h62
  have H61 := hide h61
  have hX := extract_one text at_ c hc
  have HX := hide hX
  have HA : Hid (∀ x, (x = (62 : UInt8) ∨ x = 61) → Lex.isAt text.data.toList (at_ + 1) x = true → at_ + 1 + 1 ≤ text.size) := by
    intro x _ h
    unfold Lex.isAt at h
    rw [decide_eq_true_eq] at h
    have := (List.getElem?_eq_some_iff.1 h).1
    rw [HL.out] at this
    omega
  have I1 : (at_ : Int) ≤ (at_ : Int) + 1 := by omega
  have I2 : (at_ : Int) + 1 ≤ (text.size : Int) := by omega
  have T1 : ((at_ : Int) + 1).toNat = at_ + 1 := by omega
  clear ho h62 h61 hc hX
  obtain ⟨mm, hmm⟩ : ∃ b, b = decide (c ∈ Lex.signs) := ⟨_, rfl⟩
  have HMM := hide hmm
  have HSg : Hid (Lex.signs = [40, 41, 44, 46, 59, 43, 45, 42, 61, 60, 62]) := rfl
  clear hmm
  by_cases h60 : c.toNat = 60
  · have q60 : ((c.toNat : Int) == 60) = true := by simp; omega
    have q62 : ((c.toNat : Int) == 62) = false := by simp; omega
    go_enter Tryd.func23, Tryd.ntmps23
    go_wp2_with fail
    with_reducible refine (is_any text _ (at_ + 1) 62 _ _ (by omega) b62).mono ?_
    rintro e w' ⟨rfl, rfl⟩
    rw [← H62.out]
    cases v62 with
    | true =>
      have HF : Hid (o = some (5, _, 2)) := HO.out.trans (if_pos (Or.inl ⟨h60, Or.inl rfl⟩))
      have hl2 := HA.out 62 (Or.inl rfl) H62.out.symm
      have I3 : (at_ : Int) + 1 + 1 ≤ (text.size : Int) := by omega
      have I4 : (at_ : Int) ≤ (at_ : Int) + 1 + 1 := by omega
      have T2 : ((at_ : Int) + 1 + 1).toNat = at_ + 1 + 1 := by omega
      clear h60
      go_wp2_with fail
      exact bodyPost_ret (v := .tuple #[.agg #[.int .u8 5, .string (text.extract at_ (at_ + 1 + 1)), .int .i64 0], .int .i64 ((at_ : Int) + 1 + 1), .bool true]) (by simp [results, Tryd.results23, go_sem]) rfl (TP.yes HF.out rfl (by rw [extract_eq _ _ _ (by omega), show at_ + 1 + 1 - at_ = 2 by omega]) (by omega) ((Below.refl _ _).alloc (Nat.le_refl _) _))
    | false =>
      go_wp2_with fail
      with_reducible refine (is_any text _ (at_ + 1) 61 _ _ (by omega) b61).mono ?_
      rintro e w' ⟨rfl, rfl⟩
      rw [← H61.out]
      cases v61 with
      | true =>
        have HF : Hid (o = some (5, _, 2)) := HO.out.trans (if_pos (Or.inl ⟨h60, Or.inr rfl⟩))
        have hl2 := HA.out 61 (Or.inr rfl) H61.out.symm
        have I3 : (at_ : Int) + 1 + 1 ≤ (text.size : Int) := by omega
        have I4 : (at_ : Int) ≤ (at_ : Int) + 1 + 1 := by omega
        have T2 : ((at_ : Int) + 1 + 1).toNat = at_ + 1 + 1 := by omega
        clear h60
        go_wp2_with fail
        exact bodyPost_ret (v := .tuple #[.agg #[.int .u8 5, .string (text.extract at_ (at_ + 1 + 1)), .int .i64 0], .int .i64 ((at_ : Int) + 1 + 1), .bool true]) (by simp [results, Tryd.results23, go_sem]) rfl (TP.yes HF.out rfl (by rw [extract_eq _ _ _ (by omega), show at_ + 1 + 1 - at_ = 2 by omega]) (by omega) ((Below.refl _ _).alloc (Nat.le_refl _) _))
      | false =>
        have HO2 : Hid (o = _) := HO.out.trans (if_neg (by rintro (⟨_, h | h⟩ | ⟨h, _⟩) <;> first | (cases h; done) | omega))
        clear HO
        go_wp2_with fail
        rw [HX.out]
        with_reducible refine (Tryd.strings_Contains_one ⟨#[40, 41, 44, 46, 59, 43, 45, 42, 61, 60, 62]⟩ c _).mono ?_
        rintro e w' ⟨rfl, rfl⟩
        rw [index_mem, ← HSg.out, ← HMM.out]
        cases mm with
        | true =>
          have HF : Hid (o = some (5, _, 1)) := HO2.out.trans (if_pos (of_decide_eq_true HMM.out.symm))
          go_wp2_with fail
          exact bodyPost_ret (v := .tuple #[.agg #[.int .u8 5, .string (text.extract at_ (at_ + 1)), .int .i64 0], .int .i64 ((at_ : Int) + 1), .bool true]) (by simp [results, Tryd.results23, go_sem]) rfl (TP.yes HF.out rfl (by rw [extract_eq _ _ _ (by omega), show at_ + 1 - at_ = 1 by omega]) (by omega) ((Below.refl _ _).alloc (Nat.le_refl _) _))
        | false =>
          have HF : Hid (o = none) := HO2.out.trans (if_neg (of_decide_eq_false HMM.out.symm))
          go_wp2_with fail
          exact bodyPost_ret (v := .tuple #[.agg #[.int .u8 0, .string ⟨#[]⟩, .int .i64 0], .int .i64 0, .bool false]) (by simp [results, Tryd.results23, go_sem]) rfl (TP.no HF.out ((Below.refl _ _).alloc (Nat.le_refl _) _))
  · have q60 : ((c.toNat : Int) == 60) = false := by simp; omega
    by_cases h62 : c.toNat = 62
    · have q62 : ((c.toNat : Int) == 62) = true := by simp; omega
      go_enter Tryd.func23, Tryd.ntmps23
      go_wp2_with fail
      with_reducible refine (is_any text _ (at_ + 1) 61 _ _ (by omega) b61).mono ?_
      rintro e w' ⟨rfl, rfl⟩
      rw [← H61.out]
      cases v61 with
      | true =>
        have HF : Hid (o = some (5, _, 2)) := HO.out.trans (if_pos (Or.inr ⟨h62, rfl⟩))
        have hl2 := HA.out 61 (Or.inr rfl) H61.out.symm
        have I3 : (at_ : Int) + 1 + 1 ≤ (text.size : Int) := by omega
        have I4 : (at_ : Int) ≤ (at_ : Int) + 1 + 1 := by omega
        have T2 : ((at_ : Int) + 1 + 1).toNat = at_ + 1 + 1 := by omega
        clear h60 h62
        go_wp2_with fail
        exact bodyPost_ret (v := .tuple #[.agg #[.int .u8 5, .string (text.extract at_ (at_ + 1 + 1)), .int .i64 0], .int .i64 ((at_ : Int) + 1 + 1), .bool true]) (by simp [results, Tryd.results23, go_sem]) rfl (TP.yes HF.out rfl (by rw [extract_eq _ _ _ (by omega), show at_ + 1 + 1 - at_ = 2 by omega]) (by omega) ((Below.refl _ _).alloc (Nat.le_refl _) _))
      | false =>
        have HO2 : Hid (o = _) := HO.out.trans (if_neg (by rintro (⟨h, _⟩ | ⟨_, h⟩) <;> first | (cases h; done) | omega))
        clear HO
        go_wp2_with fail
        rw [HX.out]
        with_reducible refine (Tryd.strings_Contains_one ⟨#[40, 41, 44, 46, 59, 43, 45, 42, 61, 60, 62]⟩ c _).mono ?_
        rintro e w' ⟨rfl, rfl⟩
        rw [index_mem, ← HSg.out, ← HMM.out]
        cases mm with
        | true =>
          have HF : Hid (o = some (5, _, 1)) := HO2.out.trans (if_pos (of_decide_eq_true HMM.out.symm))
          go_wp2_with fail
          exact bodyPost_ret (v := .tuple #[.agg #[.int .u8 5, .string (text.extract at_ (at_ + 1)), .int .i64 0], .int .i64 ((at_ : Int) + 1), .bool true]) (by simp [results, Tryd.results23, go_sem]) rfl (TP.yes HF.out rfl (by rw [extract_eq _ _ _ (by omega), show at_ + 1 - at_ = 1 by omega]) (by omega) ((Below.refl _ _).alloc (Nat.le_refl _) _))
        | false =>
          have HF : Hid (o = none) := HO2.out.trans (if_neg (of_decide_eq_false HMM.out.symm))
          go_wp2_with fail
          exact bodyPost_ret (v := .tuple #[.agg #[.int .u8 0, .string ⟨#[]⟩, .int .i64 0], .int .i64 0, .bool false]) (by simp [results, Tryd.results23, go_sem]) rfl (TP.no HF.out ((Below.refl _ _).alloc (Nat.le_refl _) _))
    · have q62 : ((c.toNat : Int) == 62) = false := by simp; omega
      go_enter Tryd.func23, Tryd.ntmps23
      have HO2 : Hid (o = _) := HO.out.trans (if_neg (by rintro (⟨h, _⟩ | ⟨h, _⟩) <;> omega))
      clear HO
      go_wp2_with fail
      rw [HX.out]
      with_reducible refine (Tryd.strings_Contains_one ⟨#[40, 41, 44, 46, 59, 43, 45, 42, 61, 60, 62]⟩ c _).mono ?_
      rintro e w' ⟨rfl, rfl⟩
      rw [index_mem, ← HSg.out, ← HMM.out]
      cases mm with
      | true =>
        have HF : Hid (o = some (5, _, 1)) := HO2.out.trans (if_pos (of_decide_eq_true HMM.out.symm))
        go_wp2_with fail
        exact bodyPost_ret (v := .tuple #[.agg #[.int .u8 5, .string (text.extract at_ (at_ + 1)), .int .i64 0], .int .i64 ((at_ : Int) + 1), .bool true]) (by simp [results, Tryd.results23, go_sem]) rfl (TP.yes HF.out rfl (by rw [extract_eq _ _ _ (by omega), show at_ + 1 - at_ = 1 by omega]) (by omega) ((Below.refl _ _).alloc (Nat.le_refl _) _))
      | false =>
        have HF : Hid (o = none) := HO2.out.trans (if_neg (of_decide_eq_false HMM.out.symm))
        go_wp2_with fail
        exact bodyPost_ret (v := .tuple #[.agg #[.int .u8 0, .string ⟨#[]⟩, .int .i64 0], .int .i64 0, .bool false]) (by simp [results, Tryd.results23, go_sem]) rfl (TP.no HF.out ((Below.refl _ _).alloc (Nat.le_refl _) _))
end Go.Proofs.YtfoolkjamadfdaaDoor
