/-
  The walks of chanceryref19.at, half, skip. Conditions: the text's length is an int. (printed by refskip.py)
-/
import Derived.Test.YtfoolkjamadfdaaRefName
import Derived.Test.YtfoolkjamadfdaaLexT
namespace Go.Proofs.Ytfoolkjamadfdaa
open Go.RowKit

/-- The byte at a place; 0 behind the end. -/
def atB (l : List UInt8) (i : Nat) : UInt8 := (l[i]?).getD 0
theorem at_is (l : List UInt8) (i : Nat) (c : UInt8) (hc : c ≠ 0) (x : Int) (hx : x = (c.toNat : Int)) : (((atB l i).toNat : Int) == x) = Lex.isAt l i c := by
  subst hx
  unfold atB Lex.isAt
  rw [Bool.eq_iff_iff]
  simp only [beq_iff_eq, decide_eq_true_eq]
  cases h : l[i]? with
  | none => simp; exact fun e => hc (UInt8.toNat_inj.1 (by simpa using (Int.ofNat.inj e).symm))
  | some d => simp; exact ⟨fun e => UInt8.toNat_inj.1 (by omega), fun e => by rw [e]⟩
theorem rat_any (text : ByteArray) (i : Int) (at_ : Nat) (w : World) (hi : i = (at_ : Int)) :
    Calls Try.prog 34 #[.string text, .int .i64 i] w fun e w' => e = .returned (.int .u8 ((atB text.data.toList at_).toNat : Int)) ∧ w = w' := by
  subst hi
  have HL := hide (str_len text)
  by_cases hlt : at_ < text.size
  · obtain ⟨d, hd, hs⟩ := str_at hlt
    have HF : Hid (atB text.data.toList at_ = d) := by show _ = _; unfold atB; rw [hd]; rfl
    have hltI : (at_ : Int) < (text.size : Int) := by omega
    clear hd
    go_enter Try.func34, Try.ntmps34
    go_wp2
    go_ret
    exact ⟨by rw [HF.out]; rfl, rfl⟩
  · have HF : Hid (atB text.data.toList at_ = 0) := by
      show _ = _
      unfold atB
      rw [List.getElem?_eq_none (by rw [HL.out]; omega)]
      rfl
    have hltI : ¬ (at_ : Int) < (text.size : Int) := by omega
    go_enter Try.func34, Try.ntmps34
    go_wp2
    go_ret
    exact ⟨by rw [HF.out]; rfl, rfl⟩
def halfOf (c : UInt8) : Nat := if Lex.hex c = true then Lex.worth c else 0
theorem half_any (c : UInt8) (w : World) : Calls Try.prog 40 #[.int .u8 (c.toNat : Int)] w fun e w' => e = .returned (.tuple #[.int .u8 ((halfOf c : Nat) : Int), .bool (Lex.hex c)]) ∧ w = w' := by
  have hl := c.toNat_lt
  unfold halfOf Lex.worth
  cases hd : Lex.digit c with
  | true =>
    have H2 := hide hd
    have HX : Hid (Lex.hex c = true) := by show _ = _; unfold Lex.hex; rw [hd]; rfl
    unfold Lex.digit at hd
    rw [decide_eq_true_eq] at hd
    obtain ⟨hd1, hd2⟩ := hd
    rw [HX.out, if_pos rfl, if_pos rfl]
    go_enter Try.func40, Try.ntmps40
    go_wp2_with fail
    with_reducible refine (rdigit_any c _).mono ?_
    rintro e w' ⟨rfl, rfl⟩
    rw [H2.out]
    go_wp2_with fail
    go_ret2
    exact ⟨by rw [show ((c.toNat - 48 : Nat) : Int) = (c.toNat : Int) - 48 by omega]; rfl, rfl⟩
  | false =>
    have H2 := hide hd
    rw [if_neg (show ¬ false = true by simp)]
    by_cases h1 : 97 ≤ c.toNat
    · by_cases h2 : c.toNat ≤ 102
      · have HX : Hid (Lex.hex c = true) := by show _ = _; unfold Lex.hex; rw [hd]; simp; omega
        rw [HX.out, if_pos rfl]
        clear hd
        go_enter Try.func40, Try.ntmps40
        go_wp2_with fail
        with_reducible refine (rdigit_any c _).mono ?_
        rintro e w' ⟨rfl, rfl⟩
        rw [H2.out]
        go_wp2_with fail
        go_ret2
        exact ⟨by rw [show ((c.toNat - 87 : Nat) : Int) = (c.toNat : Int) - 97 + 10 by omega]; rfl, rfl⟩
      · have HX : Hid (Lex.hex c = false) := by show _ = _; unfold Lex.hex; rw [hd]; simp; omega
        rw [HX.out, if_neg (show ¬ false = true by simp)]
        clear hd
        go_enter Try.func40, Try.ntmps40
        go_wp2_with fail
        with_reducible refine (rdigit_any c _).mono ?_
        rintro e w' ⟨rfl, rfl⟩
        rw [H2.out]
        go_wp2_with fail
        go_ret2
        exact ⟨rfl, rfl⟩
    · have HX : Hid (Lex.hex c = false) := by show _ = _; unfold Lex.hex; rw [hd]; simp; omega
      rw [HX.out, if_neg (show ¬ false = true by simp)]
      clear hd
      go_enter Try.func40, Try.ntmps40
      go_wp2_with fail
      with_reducible refine (rdigit_any c _).mono ?_
      rintro e w' ⟨rfl, rfl⟩
      rw [H2.out]
      go_wp2_with fail
      go_ret2
      exact ⟨rfl, rfl⟩

theorem skip_true_cons {c : UInt8} {r : List UInt8} (h : c.toNat ≠ 10) : Lex.skip true (c :: r) = Lex.skip true r := by simp only [Lex.skip]; rw [if_neg h]
theorem skip_true_line {c : UInt8} {r : List UInt8} (h : c.toNat = 10) : Lex.skip true (c :: r) = Lex.skip false (c :: r) := by
  rw [Lex.skip_line]
  simp only [Lex.span]
  rw [if_neg (by simp [Lex.notLine, h]), List.drop_zero]
theorem skip_false_blank {c : UInt8} {r : List UInt8} (h : Lex.blank c = true) : Lex.skip false (c :: r) = Lex.skip false r := by simp only [Lex.skip]; rw [if_pos h]
theorem skip_false_note {c : UInt8} {r : List UInt8} (h : c.toNat = 45) (h1 : Lex.isAt r 0 45 = true) : Lex.skip false (c :: r) = Lex.skip true (c :: r) := by
  rw [skip_true_cons (by omega)]
  simp only [Lex.skip]
  rw [if_neg (by simp [Lex.blank, h]), if_pos ⟨h, h1⟩]

set_option maxHeartbeats 1600000 in
theorem rskip_any (text : ByteArray) (i0 : Int) (at_ : Nat) (w : World) (hi0 : i0 = (at_ : Int)) (hm : text.size + 4 ≤ 9223372036854775807) (hat : at_ ≤ text.size) :
    Calls Try.prog 17 #[.string text, .int .i64 i0] w fun e w' => e = .returned (.int .i64 ((Lex.skipAt text.data.toList at_ : Nat) : Int)) ∧ w = w' := by
  subst hi0
  have HL := hide (str_len text)
  go_enter Try.func17, Try.ntmps17
  go_wp2_with fail
  go_loopg [1] (text.size - at_) (fun g a wr => ∃ k : Nat, g = text.size - k ∧ wr = w ∧ a = .int .i64 (k : Nat) ∧ k ≤ text.size ∧ Hid (Lex.skip false (text.data.toList.drop at_) = Lex.skip false (text.data.toList.drop k)))
  case atStart => exact ⟨at_, rfl, rfl, rfl, hat, rfl⟩
  case round =>
    obtain ⟨k, rfl, rfl, rfl, hk, HS⟩ := hrel
    by_cases hlt : k < text.size
    · obtain ⟨c, hc, hs⟩ := str_at hlt
      have HC := hide (drop_at hc)
      have hcl := c.toNat_lt
      have hkI : (k : Int) < (text.size : Int) := by omega
      clear hc
      by_cases h32 : c.toNat = 32
      · have q32 : ((c.toNat : Int) == 32) = true := by simp; omega
        have HN : Hid (Lex.skip false (text.data.toList.drop at_) = Lex.skip false (text.data.toList.drop (k + 1))) := by
          show _ = _
          rw [HS.out, HC.out, skip_false_blank (by simp [Lex.blank, h32])]
        clear h32
        go_wp2_with fail
        go_roundg (text.size - (k + 1))
        case measure => omega
        case rel => exact ⟨k + 1, rfl, rfl, by go_num, by omega, HN.out⟩
      have q32 : ((c.toNat : Int) == 32) = false := by simp; omega
      by_cases h9 : c.toNat = 9
      · have q9 : ((c.toNat : Int) == 9) = true := by simp; omega
        have HN : Hid (Lex.skip false (text.data.toList.drop at_) = Lex.skip false (text.data.toList.drop (k + 1))) := by
          show _ = _
          rw [HS.out, HC.out, skip_false_blank (by simp [Lex.blank, h9])]
        clear h32 h9
        go_wp2_with fail
        go_roundg (text.size - (k + 1))
        case measure => omega
        case rel => exact ⟨k + 1, rfl, rfl, by go_num, by omega, HN.out⟩
      have q9 : ((c.toNat : Int) == 9) = false := by simp; omega
      by_cases h10 : c.toNat = 10
      · have q10 : ((c.toNat : Int) == 10) = true := by simp; omega
        have HN : Hid (Lex.skip false (text.data.toList.drop at_) = Lex.skip false (text.data.toList.drop (k + 1))) := by
          show _ = _
          rw [HS.out, HC.out, skip_false_blank (by simp [Lex.blank, h10])]
        clear h32 h9 h10
        go_wp2_with fail
        go_roundg (text.size - (k + 1))
        case measure => omega
        case rel => exact ⟨k + 1, rfl, rfl, by go_num, by omega, HN.out⟩
      have q10 : ((c.toNat : Int) == 10) = false := by simp; omega
      by_cases h13 : c.toNat = 13
      · have q13 : ((c.toNat : Int) == 13) = true := by simp; omega
        have HN : Hid (Lex.skip false (text.data.toList.drop at_) = Lex.skip false (text.data.toList.drop (k + 1))) := by
          show _ = _
          rw [HS.out, HC.out, skip_false_blank (by simp [Lex.blank, h13])]
        clear h32 h9 h10 h13
        go_wp2_with fail
        go_roundg (text.size - (k + 1))
        case measure => omega
        case rel => exact ⟨k + 1, rfl, rfl, by go_num, by omega, HN.out⟩
      have q13 : ((c.toNat : Int) == 13) = false := by simp; omega
      have HNB : Hid (Lex.blank c = false) := by show _ = _; simp [Lex.blank, h32, h9, h10, h13]
      clear h32 h9 h10 h13
      by_cases h45 : c.toNat = 45
      · have q45 : ((c.toNat : Int) == 45) = true := by simp; omega
        obtain ⟨b2, hb2⟩ : ∃ b, b = Lex.isAt text.data.toList (k + 1) 45 := ⟨_, rfl⟩
        have H2 := hide hb2
        have H45 := hide h45
        clear hb2 h45
        go_wp2_with fail
        with_reducible refine (rat_any text _ (k + 1) _ (by omega)).mono ?_
        rintro e w' ⟨rfl, rfl⟩
        obtain ⟨a, ha⟩ : ∃ a, a = atB text.data.toList (k + 1) := ⟨_, rfl⟩
        have qa := at_is text.data.toList (k + 1) 45 (by decide) 45 rfl
        rw [← ha, ← H2.out] at qa
        rw [← ha]
        clear ha
        cases b2 with
        | false =>
          have HF : Hid (Lex.skipAt text.data.toList at_ = k) := by
            refine Lex.skipAt_eq ?_ (by rw [HL.out]; exact hk)
            rw [HS.out]
            refine Lex.skip_stop ?_ (Or.inr (by rw [Lex.isAt_drop]; exact H2.out.symm))
            intro d hd
            rw [HC.out] at hd
            injection hd with hd
            rw [← hd]
            exact HNB.out
          go_wp2_with fail
          go_ret
          exact ⟨ret_int (by rw [HF.out]), rfl⟩
        | true =>
          have HT : Hid (Lex.skip false (text.data.toList.drop at_) = Lex.skip true (text.data.toList.drop k)) := by
            show _ = _
            rw [HS.out, HC.out]
            exact skip_false_note H45.out (by rw [Lex.isAt_drop]; exact H2.out.symm)
          have HT1 : Hid (Lex.skip false (text.data.toList.drop at_) = Lex.skip true (text.data.toList.drop (k + 1))) := by
            show _ = _
            rw [HT.out, HC.out]
            exact skip_true_cons (by rw [H45.out]; decide)
          go_wp2_with fail
          go_loopg [1] (text.size - k) (fun g a wz => ∃ j : Nat, g = text.size - j ∧ wz = wr ∧ a = .int .i64 (j : Nat) ∧ k ≤ j ∧ j ≤ text.size ∧ Hid (Lex.skip false (text.data.toList.drop at_) = Lex.skip true (text.data.toList.drop j)))
          case atStart => exact ⟨k, rfl, rfl, rfl, Nat.le_refl _, hk, HT.out⟩
          case round =>
            obtain ⟨j, rfl, rfl, rfl, hkj, hj, HJ⟩ := hrel
            by_cases hltj : j < text.size
            · obtain ⟨d, hd, hsd⟩ := str_at hltj
              have HD := hide (drop_at hd)
              have hdl := d.toNat_lt
              have hjI : (j : Int) < (text.size : Int) := by omega
              clear hd
              by_cases hd10 : d.toNat = 10
              · have qd : ((d.toNat : Int) == 10) = true := by simp; omega
                have HN : Hid (Lex.skip false (text.data.toList.drop at_) = Lex.skip false (text.data.toList.drop j)) := by
                  show _ = _
                  rw [HJ.out, HD.out]
                  exact skip_true_line hd10
                have hne : k < j := by
                  rcases Nat.lt_or_ge k j with h | h
                  · exact h
                  · obtain rfl : j = k := by omega
                    have h2 := HD.out
                    rw [HC.out] at h2
                    injection h2 with h2
                    have h3 := H45.out
                    rw [h2] at h3
                    omega
                clear hd10
                go_wp2_with fail
                go_roundg (text.size - j)
                case measure => omega
                case rel => exact ⟨j, rfl, rfl, rfl, by omega, HN.out⟩
              · have qd : ((d.toNat : Int) == 10) = false := by simp; omega
                have HN : Hid (Lex.skip false (text.data.toList.drop at_) = Lex.skip true (text.data.toList.drop (j + 1))) := by
                  show _ = _
                  rw [HJ.out, HD.out]
                  exact skip_true_cons hd10
                clear hd10
                go_wp2_with fail
                go_roundg (text.size - (j + 1))
                case measure => omega
                case rel => exact ⟨j + 1, rfl, rfl, by go_num, by omega, by omega, HN.out⟩
            · have hjI : ¬ (j : Int) < (text.size : Int) := by omega
              have hkjl : k < j := by omega
              have HN : Hid (Lex.skip false (text.data.toList.drop at_) = Lex.skip false (text.data.toList.drop j)) := by
                show _ = _
                rw [HJ.out, List.drop_of_length_le (by rw [HL.out]; omega)]
                rfl
              go_wp2_with fail
              go_roundg (text.size - j)
              case measure => omega
              case rel => exact ⟨j, rfl, rfl, rfl, by omega, HN.out⟩
      · have q45 : ((c.toNat : Int) == 45) = false := by simp; omega
        have HF : Hid (Lex.skipAt text.data.toList at_ = k) := by
          refine Lex.skipAt_eq ?_ (by rw [HL.out]; exact hk)
          rw [HS.out]
          refine Lex.skip_stop ?_ (Or.inl ?_)
          · intro d hd
            rw [HC.out] at hd
            injection hd with hd
            rw [← hd]
            exact HNB.out
          · rw [HC.out]
            simp [Lex.isAt]
            intro e
            rw [e] at h45
            exact h45 rfl
        clear h45
        go_wp2_with fail
        go_ret
        exact ⟨ret_int (by rw [HF.out]), rfl⟩
    · have HF : Hid (Lex.skipAt text.data.toList at_ = k) := by
        refine Lex.skipAt_eq ?_ (by rw [HL.out]; exact hk)
        rw [HS.out, List.drop_of_length_le (by rw [HL.out]; omega)]
        rfl
      have hkI : ¬ (k : Int) < (text.size : Int) := by omega
      go_wp2_with fail
      go_ret
      exact ⟨ret_int (by rw [HF.out]), rfl⟩
end Go.Proofs.Ytfoolkjamadfdaa
