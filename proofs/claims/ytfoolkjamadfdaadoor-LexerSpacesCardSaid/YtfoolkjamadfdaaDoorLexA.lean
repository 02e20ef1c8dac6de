/-
  The walks of the lexer's small parts: kinds of bytes, span, is, skip. Conditions: the text's length is an int.
-/
import Derived.Test.YtfoolkjamadfdaaDoorBase
import Derived.Test.YtfoolkjamadfdaaDoorLexMath
namespace Go.Proofs.YtfoolkjamadfdaaDoor
open Go.RowKit

theorem ret_b {b c : Bool} (h : b = c) : Ending.returned (.bool b) = .returned (.bool c) := by rw [h]

theorem letter_any (c : UInt8) (w : World) : Calls Tryd.prog 18 #[.int .i32 (c.toNat : Int)] w fun e w' => e = .returned (.bool (Lex.letter c)) ∧ w = w' := by
  have hc := c.toNat_lt
  by_cases h1 : 97 ≤ c.toNat
  · go_enter Tryd.func18, Tryd.ntmps18
    go_wp2
    all_goals
      go_ret
      refine ⟨?_, rfl⟩
      unfold Lex.letter
      exact ret_b (by rw [Bool.eq_iff_iff]; simp; omega)
  · go_enter Tryd.func18, Tryd.ntmps18
    go_wp2
    all_goals
      go_ret
      refine ⟨?_, rfl⟩
      unfold Lex.letter
      exact ret_b (by rw [Bool.eq_iff_iff]; simp; omega)
theorem digit_any (c : UInt8) (w : World) : Calls Tryd.prog 20 #[.int .i32 (c.toNat : Int)] w fun e w' => e = .returned (.bool (Lex.digit c)) ∧ w = w' := by
  have hc := c.toNat_lt
  by_cases h1 : 48 ≤ c.toNat
  · go_enter Tryd.func20, Tryd.ntmps20
    go_wp2
    all_goals
      go_ret
      refine ⟨?_, rfl⟩
      unfold Lex.digit
      exact ret_b (by rw [Bool.eq_iff_iff]; simp; omega)
  · go_enter Tryd.func20, Tryd.ntmps20
    go_wp2
    all_goals
      go_ret
      refine ⟨?_, rfl⟩
      unfold Lex.digit
      exact ret_b (by rw [Bool.eq_iff_iff]; simp; omega)
theorem line_any (c : UInt8) (w : World) : Calls Tryd.prog 16 #[.int .i32 (c.toNat : Int)] w fun e w' => e = .returned (.bool (Lex.notLine c)) ∧ w = w' := by
  go_enter Tryd.func16, Tryd.ntmps16
  go_wp2
  go_ret
  refine ⟨?_, rfl⟩
  unfold Lex.notLine
  exact ret_b (by rw [Bool.eq_iff_iff]; simp; omega)
theorem blank_any (c : UInt8) (w : World) : Calls Tryd.prog 14 #[.int .i32 (c.toNat : Int)] w fun e w' => e = .returned (.bool (Lex.blank c)) ∧ w = w' := by
  have go : ∀ b : Bool, b = Lex.blank c → Calls Tryd.prog 14 #[.int .i32 (c.toNat : Int)] w fun e w' => e = .returned (.bool b) ∧ w = w' := by
    intro b hb
    have HB := hide hb
    clear hb
    by_cases h1 : c.toNat = 32
    · have q1 : ((c.toNat : Int) == 32) = true := by simp; omega
      have HF : Hid (b = true) := HB.out.trans (by simp [Lex.blank, h1])
      clear h1
      go_enter Tryd.func14, Tryd.ntmps14
      go_wp2
      go_ret
      exact ⟨by rw [HF.out]; rfl, rfl⟩
    have q1 : ((c.toNat : Int) == 32) = false := by simp; omega
    by_cases h2 : c.toNat = 9
    · have q2 : ((c.toNat : Int) == 9) = true := by simp; omega
      have HF : Hid (b = true) := HB.out.trans (by simp [Lex.blank, h2])
      clear h1 h2
      go_enter Tryd.func14, Tryd.ntmps14
      go_wp2
      go_ret
      exact ⟨by rw [HF.out]; rfl, rfl⟩
    have q2 : ((c.toNat : Int) == 9) = false := by simp; omega
    by_cases h3 : c.toNat = 10
    · have q3 : ((c.toNat : Int) == 10) = true := by simp; omega
      have HF : Hid (b = true) := HB.out.trans (by simp [Lex.blank, h3])
      clear h1 h2 h3
      go_enter Tryd.func14, Tryd.ntmps14
      go_wp2
      go_ret
      exact ⟨by rw [HF.out]; rfl, rfl⟩
    have q3 : ((c.toNat : Int) == 10) = false := by simp; omega
    by_cases h4 : c.toNat = 13
    · have q4 : ((c.toNat : Int) == 13) = true := by simp; omega
      have HF : Hid (b = true) := HB.out.trans (by simp [Lex.blank, h4])
      clear h1 h2 h3 h4
      go_enter Tryd.func14, Tryd.ntmps14
      go_wp2
      go_ret
      exact ⟨by rw [HF.out]; rfl, rfl⟩
    have q4 : ((c.toNat : Int) == 13) = false := by simp; omega
    have HF : Hid (b = false) := HB.out.trans (by simp [Lex.blank, h1, h2, h3, h4])
    clear h1 h2 h3 h4
    go_enter Tryd.func14, Tryd.ntmps14
    go_wp2
    go_ret
    exact ⟨by rw [HF.out]; rfl, rfl⟩
  exact go _ rfl
theorem inWord_any (c : UInt8) (w : World) : Calls Tryd.prog 19 #[.int .i32 (c.toNat : Int)] w fun e w' => e = .returned (.bool (Lex.inWord c)) ∧ w = w' := by
  unfold Lex.inWord
  obtain ⟨b1, h1⟩ : ∃ b, b = Lex.letter c := ⟨_, rfl⟩
  obtain ⟨b2, h2⟩ : ∃ b, b = Lex.digit c := ⟨_, rfl⟩
  rw [← h1, ← h2]
  have H1 := hide h1
  have H2 := hide h2
  clear h1 h2
  cases b1
  all_goals
    go_enter Tryd.func19, Tryd.ntmps19
    go_wp2_with (first | (go_at_call 18; with_reducible refine (letter_any c _).mono ?_; rintro e w' ⟨rfl, rfl⟩; rw [← H1.out]) | (go_at_call 20; with_reducible refine (digit_any c _).mono ?_; rintro e w' ⟨rfl, rfl⟩; rw [← H2.out]))
    go_ret
    exact ⟨by simp, rfl⟩
theorem hex_any (c : UInt8) (w : World) : Calls Tryd.prog 32 #[.int .i32 (c.toNat : Int)] w fun e w' => e = .returned (.bool (Lex.hex c)) ∧ w = w' := by
  have hc := c.toNat_lt
  unfold Lex.hex
  obtain ⟨b2, h2⟩ : ∃ b, b = Lex.digit c := ⟨_, rfl⟩
  rw [← h2]
  have H2 := hide h2
  clear h2
  cases b2
  · by_cases h1 : 97 ≤ c.toNat
    all_goals
      go_enter Tryd.func32, Tryd.ntmps32
      go_wp2_with (go_at_call 20; with_reducible refine (digit_any c _).mono ?_; rintro e w' ⟨rfl, rfl⟩; rw [← H2.out])
      all_goals
        go_ret
        exact ⟨ret_b (by first | rfl | (rw [Bool.eq_iff_iff]; simp; omega) | (rw [Bool.eq_iff_iff]; simp) | (simp; omega)), rfl⟩
  · go_enter Tryd.func32, Tryd.ntmps32
    go_wp2_with (go_at_call 20; with_reducible refine (digit_any c _).mono ?_; rintro e w' ⟨rfl, rfl⟩; rw [← H2.out])
    go_ret
    exact ⟨by simp, rfl⟩

set_option maxHeartbeats 400000 in
theorem span_any (text : ByteArray) (at_ : Nat) (N : FuncId) (p : UInt8 → Bool) (w : World) (hm : text.size ≤ 9223372036854775807) (hN : ∀ (x : Value) (w : World), (callFunc N #[x]).run Tryd.prog w = .ok (.enter N #[x]) w) (hp : ∀ (c : UInt8) (w : World), Calls Tryd.prog N #[.int .i32 (c.toNat : Int)] w fun e w' => e = .returned (.bool (p c)) ∧ w = w') (hat : at_ ≤ text.size) :
    Calls Tryd.prog 13 #[.string text, .int .i64 (at_ : Int), .func (.func N) #[] #[]] w fun e w' => e = .returned (.int .i64 ((at_ + Lex.span p (text.data.toList.drop at_) : Nat) : Int)) ∧ w = w' := by
  have HP := hide hp
  have HL := hide (str_len text)
  clear hp
  go_enter Tryd.func13, Tryd.ntmps13
  go_wp2_with fail
  go_loop [12] (fun i => ∃ k : Nat, i = .int .i64 (k : Nat) ∧ at_ + k ≤ text.size ∧ Hid (∀ j c, j < k → (text.data.toList.drop at_)[j]? = some c → p c = true)) (fun i => text.size - (intOf i).toNat)
  case atStart => exact ⟨0, rfl, by omega, fun j c h => absurd h (by omega)⟩
  case round =>
    obtain ⟨k, rfl, hk, HK⟩ := hrel
    by_cases hlt : at_ + k < text.size
    · obtain ⟨c, hc, hs⟩ := str_at hlt
      have hkI : (k : Int) < (text.size : Int) - (at_ : Int) := by omega
      have HC := hide hc
      have hcl := c.toNat_lt
      clear hc
      go_wp2_with fail
      with_reducible refine (HP.out c _).mono ?_
      rintro e w' ⟨rfl, rfl⟩
      cases hpc : p c with
      | true =>
        have HN : Hid (∀ j d, j < k + 1 → (text.data.toList.drop at_)[j]? = some d → p d = true) := by
          intro j d hj hd
          rcases Nat.lt_or_ge j k with h | h
          · exact HK.out j d h hd
          · obtain rfl : j = k := by omega
            rw [List.getElem?_drop, HC.out] at hd
            injection hd with hd
            rw [← hd]
            exact hpc
        clear hpc
        go_wp2_with fail
        go_round
        case rel => exact ⟨k + 1, by go_num, by omega, HN.out⟩
        case measure => simp [intOf]; omega
      | false =>
        have HF : Hid (Lex.span p (text.data.toList.drop at_) = k) := by
          refine Lex.span_eq p _ k HK.out (by rw [List.length_drop, HL.out]; omega) ?_
          intro d hd
          rw [List.getElem?_drop, HC.out] at hd
          injection hd with hd
          rw [← hd]
          exact hpc
        clear hpc
        go_wp2_with fail
        go_ret
        exact ⟨ret_int (by rw [HF.out]; omega), rfl⟩
    · have HF : Hid (Lex.span p (text.data.toList.drop at_) = k) := by
        refine Lex.span_eq p _ k HK.out (by rw [List.length_drop, HL.out]; omega) ?_
        intro d hd
        rw [List.getElem?_drop, List.getElem?_eq_none (by rw [HL.out]; omega)] at hd
        cases hd
      have hkI : ¬ (k : Int) < (text.size : Int) - (at_ : Int) := by omega
      go_wp2_with fail
      go_ret
      exact ⟨ret_int (by rw [HF.out]; omega), rfl⟩

theorem run_blank (x : Value) (w : World) : (callFunc 14 #[x]).run Tryd.prog w = .ok (.enter 14 #[x]) w := by simp [go_sem]
theorem run_line (x : Value) (w : World) : (callFunc 16 #[x]).run Tryd.prog w = .ok (.enter 16 #[x]) w := by simp [go_sem]
theorem run_inWord (x : Value) (w : World) : (callFunc 19 #[x]).run Tryd.prog w = .ok (.enter 19 #[x]) w := by simp [go_sem]
theorem run_digit (x : Value) (w : World) : (callFunc 20 #[x]).run Tryd.prog w = .ok (.enter 20 #[x]) w := by simp [go_sem]
theorem run_hex (x : Value) (w : World) : (callFunc 32 #[x]).run Tryd.prog w = .ok (.enter 32 #[x]) w := by simp [go_sem]

theorem is_any (text : ByteArray) (i : Int) (at_ : Nat) (c : UInt8) (x : Int) (w : World) (hi : i = (at_ : Int)) (hx : x = (c.toNat : Int)) :
    Calls Tryd.prog 15 #[.string text, .int .i64 i, .int .u8 x] w fun e w' => e = .returned (.bool (Lex.isAt text.data.toList at_ c)) ∧ w = w' := by
  subst hi hx
  have HL := hide (str_len text)
  by_cases hlt : at_ < text.size
  · obtain ⟨d, hd, hs⟩ := str_at hlt
    have HF : Hid (Lex.isAt text.data.toList at_ c = ((d.toNat : Int) == (c.toNat : Int))) := by
      show _ = _
      unfold Lex.isAt
      rw [hd, Bool.eq_iff_iff]
      simp only [Option.some.injEq, decide_eq_true_eq, beq_iff_eq]
      exact ⟨fun h => by rw [h], fun h => UInt8.toNat_inj.1 (by omega)⟩
    have hltI : (at_ : Int) < (text.size : Int) := by omega
    have tt : decide (at_ < text.size) = true := by simpa using hlt
    clear hd
    go_enter Tryd.func15, Tryd.ntmps15
    go_wp2
    go_ret
    exact ⟨by rw [HF.out]; rfl, rfl⟩
  · have HF : Hid (Lex.isAt text.data.toList at_ c = false) := by
      show _ = _
      unfold Lex.isAt
      rw [List.getElem?_eq_none (by rw [HL.out]; omega)]
      simp
    have tt : decide (at_ < text.size) = false := by simpa using hlt
    go_enter Tryd.func15, Tryd.ntmps15
    go_wp2
    go_ret
    exact ⟨by rw [HF.out]; rfl, rfl⟩
end Go.Proofs.YtfoolkjamadfdaaDoor
