/-
  The walks of the lexer's skip, worth, number. Conditions: the text's length is an int.
-/
import Derived.Test.YtfoolkjamadfdaaDoorLexA
import Derived.Deep.LoopGhost
import Derived.Deep.DeepCutAuto
namespace Go.Proofs.YtfoolkjamadfdaaDoor
open Go.RowKit

theorem b45 : (45 : Int) = ((((45 : UInt8)).toNat : Nat) : Int) := rfl
theorem b39 : (39 : Int) = ((((39 : UInt8)).toNat : Nat) : Int) := rfl
theorem b46 : (46 : Int) = ((((46 : UInt8)).toNat : Nat) : Int) := rfl
theorem b62 : (62 : Int) = ((((62 : UInt8)).toNat : Nat) : Int) := rfl
theorem b61 : (61 : Int) = ((((61 : UInt8)).toNat : Nat) : Int) := rfl
theorem drop_at {l : List UInt8} {i : Nat} {c : UInt8} (h : l[i]? = some c) : l.drop i = c :: l.drop (i + 1) := by
  obtain ⟨hlt, hk⟩ := List.getElem?_eq_some_iff.1 h
  rw [List.drop_eq_getElem_cons hlt, hk]

set_option maxHeartbeats 800000 in
theorem skip_any (text : ByteArray) (at_ : Nat) (w : World) (hm : text.size + 4 ≤ 9223372036854775807) (hat : at_ ≤ text.size) :
    Calls Tryd.prog 8 #[.string text, .int .i64 (at_ : Int)] w fun e w' => e = .returned (.int .i64 ((Lex.skipAt text.data.toList at_ : Nat) : Int)) ∧ w = w' := by
  have HL := hide (str_len text)
  go_enter Tryd.func8, Tryd.ntmps8
  go_wp2_with fail
  go_loopg [1] (text.size - at_) (fun g a wr => ∃ k : Nat, g = text.size - k ∧ wr = w ∧ a = .int .i64 (k : Nat) ∧ k ≤ text.size ∧ Hid (Lex.skip false (text.data.toList.drop at_) = Lex.skip false (text.data.toList.drop k)))
  case atStart => exact ⟨at_, rfl, rfl, rfl, hat, rfl⟩
  case round =>
    obtain ⟨k, rfl, rfl, rfl, hk, HS⟩ := hrel
    go_wp2_with fail
    with_reducible refine (span_any text k 14 Lex.blank _ (by omega) run_blank blank_any hk).mono ?_
    rintro e w' ⟨rfl, rfl⟩
    have hsp := Lex.span_le Lex.blank (text.data.toList.drop k)
    rw [List.length_drop, HL.out] at hsp
    obtain ⟨k1, hk1⟩ : ∃ x, x = k + Lex.span Lex.blank (text.data.toList.drop k) := ⟨_, rfl⟩
    have HS1 : Hid (Lex.skip false (text.data.toList.drop at_) = Lex.skip false (text.data.toList.drop k1)) := by
      rw [HS.out, Lex.skip_blank, List.drop_drop, ← hk1]
      rfl
    have HNB : Hid (∀ c, (text.data.toList.drop k1)[0]? = some c → Lex.blank c = false) := by
      intro c hc
      apply Lex.span_stop Lex.blank (text.data.toList.drop k) c
      rw [List.getElem?_drop, ← hk1]
      simpa using hc
    have hk1n : k1 ≤ text.size := by omega
    have hkk : k ≤ k1 := by omega
    rw [← hk1]
    clear hsp hk1 HS
    obtain ⟨b1, hb1⟩ : ∃ b, b = Lex.isAt text.data.toList k1 45 := ⟨_, rfl⟩
    obtain ⟨b2, hb2⟩ : ∃ b, b = Lex.isAt text.data.toList (k1 + 1) 45 := ⟨_, rfl⟩
    have H1 := hide hb1
    have H2 := hide hb2
    clear hb1 hb2
    go_wp2_with fail
    with_reducible refine (is_any text _ k1 45 _ _ rfl b45).mono ?_
    rintro e w' ⟨rfl, rfl⟩
    rw [← H1.out]
    cases b1 with
    | false =>
      have HF : Hid (Lex.skipAt text.data.toList at_ = k1) := by
        refine Lex.skipAt_eq ?_ (by rw [HL.out]; exact hk1n)
        rw [HS1.out]
        exact Lex.skip_stop HNB.out (Or.inl (by rw [Lex.isAt_drop]; exact H1.out.symm))
      go_wp2_with fail
      go_ret
      exact ⟨ret_int (by rw [HF.out]), rfl⟩
    | true =>
      go_wp2_with fail
      with_reducible refine (is_any text _ (k1 + 1) 45 _ _ (by omega) b45).mono ?_
      rintro e w' ⟨rfl, rfl⟩
      rw [← H2.out]
      cases b2 with
      | false =>
        have HF : Hid (Lex.skipAt text.data.toList at_ = k1) := by
          refine Lex.skipAt_eq ?_ (by rw [HL.out]; exact hk1n)
          rw [HS1.out]
          exact Lex.skip_stop HNB.out (Or.inr (by rw [Lex.isAt_drop]; exact H2.out.symm))
        go_wp2_with fail
        go_ret
        exact ⟨ret_int (by rw [HF.out]), rfl⟩
      | true =>
        go_wp2_with fail
        with_reducible refine (span_any text k1 16 Lex.notLine _ (by omega) run_line line_any hk1n).mono ?_
        rintro e w' ⟨rfl, rfl⟩
        have hsp := Lex.span_le Lex.notLine (text.data.toList.drop k1)
        rw [List.length_drop, HL.out] at hsp
        have hpos : 0 < Lex.span Lex.notLine (text.data.toList.drop k1) := by
          have h45 := H1.out.symm
          unfold Lex.isAt at h45
          rw [decide_eq_true_eq] at h45
          rw [drop_at h45]
          simp only [Lex.span]
          rw [if_pos (by decide)]
          omega
        obtain ⟨k2, hk2⟩ : ∃ x, x = k1 + Lex.span Lex.notLine (text.data.toList.drop k1) := ⟨_, rfl⟩
        have HS2 : Hid (Lex.skip false (text.data.toList.drop at_) = Lex.skip false (text.data.toList.drop k2)) := by
          rw [HS1.out, Lex.skip_note (by rw [Lex.isAt_drop]; exact H1.out.symm) (by rw [Lex.isAt_drop]; exact H2.out.symm), List.drop_drop, ← hk2]
          rfl
        have hk2n : k2 ≤ text.size := by omega
        have hkk2 : k1 < k2 := by omega
        have HG : Hid (k1 < text.size) := by show _ < _; omega
        rw [← hk2]
        clear hsp hk2 hpos
        go_wp2_with fail
        go_roundg (text.size - k2)
        case measure => have := HG.out; omega
        case rel => exact ⟨k2, rfl, rfl, rfl, hk2n, HS2.out⟩

theorem worth_any (c : UInt8) (w : World) (hc : Lex.hex c = true) : Calls Tryd.prog 33 #[.int .u8 (c.toNat : Int)] w fun e w' => e = .returned (.int .u8 ((Lex.worth c : Nat) : Int)) ∧ w = w' := by
  have hl := c.toNat_lt
  unfold Lex.worth
  unfold Lex.hex at hc
  cases hd : Lex.digit c with
  | true =>
    have H2 := hide hd
    unfold Lex.digit at hd
    rw [decide_eq_true_eq] at hd
    rw [if_pos rfl]
    obtain ⟨hd1, hd2⟩ := hd
    clear hc
    go_enter Tryd.func33, Tryd.ntmps33
    go_wp2_with (go_at_call 20; with_reducible refine (digit_any c _).mono ?_; rintro e w' ⟨rfl, rfl⟩; rw [H2.out])
    go_ret
    exact ⟨ret_int (by omega), rfl⟩
  | false =>
    have H2 := hide hd
    rw [hd, Bool.false_or, decide_eq_true_eq] at hc
    rw [if_neg (by simp)]
    obtain ⟨hd1, hd2⟩ := hc
    clear hd
    go_enter Tryd.func33, Tryd.ntmps33
    go_wp2_with (go_at_call 20; with_reducible refine (digit_any c _).mono ?_; rintro e w' ⟨rfl, rfl⟩; rw [H2.out])
    go_ret
    exact ⟨ret_int (by omega), rfl⟩
end Go.Proofs.YtfoolkjamadfdaaDoor
