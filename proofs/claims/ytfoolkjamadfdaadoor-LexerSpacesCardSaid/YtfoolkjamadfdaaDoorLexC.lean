/-
  The walks of the lexer's number, sign, quoted, pairs. Conditions: the text has at most 2^40 bytes.
-/
import Derived.Test.YtfoolkjamadfdaaDoorLexB
import Derived.Test.YtfoolkjamadfdaaDoorShelf19
namespace Go.Proofs.YtfoolkjamadfdaaDoor
open Go.RowKit

/-- A token, the place behind it, and that it is one; or that it is none. -/
def TP (w : World) (at_ : Nat) (o : Option (UInt8 × List UInt8 × Nat)) (e : Ending) (w' : World) : Prop :=
  match o with
  | some (k, s, n) => e = .returned (.tuple #[.agg #[.int .u8 (k.toNat : Int), .string ⟨s.toArray⟩, .int .i64 0], .int .i64 ((at_ + n : Nat) : Int), .bool true]) ∧ Below w.heap.size w w'
  | none => ∃ k s a n, e = .returned (.tuple #[.agg #[.int .u8 k, .string s, .int .i64 a], .int .i64 n, .bool false]) ∧ Below w.heap.size w w'
theorem TP.no {w w' : World} {at_ : Nat} {o : Option (UInt8 × List UInt8 × Nat)} {k a n : Int} {s : ByteArray} (h : o = none) (hb : Below w.heap.size w w') : TP w at_ o (.returned (.tuple #[.agg #[.int .u8 k, .string s, .int .i64 a], .int .i64 n, .bool false])) w' := by
  subst h
  exact ⟨k, s, a, n, rfl, hb⟩
theorem TP.yes {w w' : World} {at_ n : Nat} {o : Option (UInt8 × List UInt8 × Nat)} {k : UInt8} {l : List UInt8} {s : ByteArray} {ki e : Int} (h : o = some (k, l, n)) (hk : ki = (k.toNat : Int)) (hs : s = ⟨l.toArray⟩) (he : e = ((at_ + n : Nat) : Int)) (hb : Below w.heap.size w w') : TP w at_ o (.returned (.tuple #[.agg #[.int .u8 ki, .string s, .int .i64 0], .int .i64 e, .bool true])) w' := by
  subst h hk hs he
  exact ⟨rfl, hb⟩
theorem extract_eq (s : ByteArray) (a b : Nat) (_hb : b ≤ s.size) : s.extract a b = ⟨((s.data.toList.drop a).take (b - a)).toArray⟩ := by
  have h : (s.extract a b).data.toList = (s.data.toList.drop a).take (b - a) := by
    rw [ByteArray.data_extract, Array.toList_extract]
  apply ByteArray.ext
  apply Array.ext'
  exact h
theorem span_hd (p : UInt8 → Bool) (c : UInt8) (l : List UInt8) : p c = decide (0 < Lex.span p (c :: l)) := by
  by_cases h : p c = true
  · rw [h]
    simp [Lex.span, h]
  · rw [Bool.not_eq_true] at h
    rw [h]
    simp [Lex.span, h]
theorem dec_true {p : Prop} [Decidable p] (h : p) : decide p = true := decide_eq_true h
theorem dec_false {p : Prop} [Decidable p] (h : ¬ p) : decide p = false := decide_eq_false h

set_option maxHeartbeats 800000 in
theorem number_any (text : ByteArray) (at_ : Nat) (w : World) (hm : text.size ≤ 1099511627776) (hat : at_ < text.size) :
    Calls Tryd.prog 21 #[.string text, .int .i64 (at_ : Int)] w (TP w at_ (Lex.numberT (text.data.toList.drop at_))) := by
  have HL := hide (str_len text)
  obtain ⟨c, hc, hs⟩ := str_at hat
  have hn := Lex.span_le Lex.digit (text.data.toList.drop at_)
  rw [List.length_drop, HL.out] at hn
  obtain ⟨o, ho⟩ : ∃ o, o = Lex.numberT (text.data.toList.drop at_) := ⟨_, rfl⟩
  have HO := hide ho
  rw [← ho]
  unfold Lex.numberT at ho
  obtain ⟨n, hnd⟩ : ∃ n, n = Lex.span Lex.digit (text.data.toList.drop at_) := ⟨_, rfl⟩
  rw [← hnd] at hn ho
  have HNd := hide hnd
  rw [Lex.isAt_drop, Lex.isAt_drop, Nat.add_zero, List.drop_drop] at ho
  have h48 : Lex.isAt text.data.toList at_ 48 = ((c.toNat : Int) == 48) := by
    unfold Lex.isAt
    rw [hc, Bool.eq_iff_iff]
    simp only [Option.some.injEq, decide_eq_true_eq, beq_iff_eq]
    exact ⟨fun h => by rw [h]; rfl, fun h => UInt8.toNat_inj.1 (by show _ = 48; omega)⟩
  rw [h48] at ho
  have HO2 := hide ho
  clear ho hnd hc h48 HO
  obtain ⟨e1, he1⟩ : ∃ x, x = at_ + n := ⟨_, rfl⟩
  have he1a : at_ ≤ e1 := by omega
  have he1b : e1 ≤ text.size := by omega
  have HE1 := hide he1
  rw [show at_ + (n + 1) = e1 + 1 by omega, ← he1] at HO2
  have HNE : Hid (n = e1 - at_) := by show _ = _; omega
  go_enter Tryd.func21, Tryd.ntmps21
  go_wp2_with fail
  with_reducible refine (span_any text at_ 20 Lex.digit _ (by omega) run_digit digit_any (by omega)).mono ?_
  rintro e w' ⟨rfl, rfl⟩
  rw [← HNd.out, ← he1]
  clear he1
  by_cases hz : ((c.toNat : Int) == 48) = true ∧ 1 < n
  · have HF : Hid (o = none) := HO2.out.trans (if_pos hz)
    obtain ⟨t1, hz2⟩ := hz
    have t2 : decide ((1 : Int) < (e1 : Int) - (at_ : Int)) = true := by have := HNE.out; simp; omega
    clear hz2
    go_wp2_with fail
    exact bodyPost_ret (v := .tuple #[.agg #[.int .u8 0, .string ⟨#[]⟩, .int .i64 0], .int .i64 0, .bool false]) (by simp [results, Tryd.results21, go_sem]) rfl (TP.no HF.out ((Below.refl _ _).alloc (Nat.le_refl _) _))
  have HO3 : Hid (o = _) := HO2.out.trans (if_neg hz)
  clear HO2
  obtain ⟨d, hd⟩ : ∃ d, d = Lex.span Lex.digit (text.data.toList.drop (e1 + 1)) := ⟨_, rfl⟩
  rw [← hd] at HO3
  have HD := hide hd
  have hdl := Lex.span_le Lex.digit (text.data.toList.drop (e1 + 1))
  rw [← hd, List.length_drop, HL.out] at hdl
  obtain ⟨b1, hb1⟩ : ∃ b, b = Lex.isAt text.data.toList e1 46 := ⟨_, rfl⟩
  rw [← hb1] at HO3
  have H1 := hide hb1
  clear hb1 hd
  -- the test of a nought ahead fails, one way or the other
  have step : ∀ (K : Prop), (((c.toNat : Int) == 48) = true → decide ((1 : Int) < (e1 : Int) - (at_ : Int)) = false → K) → (((c.toNat : Int) == 48) = false → K) → K := by
    intro K h1 h2
    cases hq : ((c.toNat : Int) == 48) with
    | false => exact h2 hq
    | true =>
      refine h1 hq ?_
      have := HNE.out
      have h3 : ¬ 1 < n := fun h => hz ⟨hq, h⟩
      simp
      omega
  clear hz
  refine step _ (fun t1 t2 => ?_) (fun t1 => ?_)
  all_goals
    clear step
    go_wp2_with fail
    with_reducible refine (is_any text _ e1 46 _ _ rfl b46).mono ?_
    rintro e w' ⟨rfl, rfl⟩
    rw [← H1.out]
    cases b1 with
    | false =>
      have HF : Hid (o = some (2, _, n)) := HO3.out.trans (if_neg (by simp))
      have hI1 : (at_ : Int) ≤ (e1 : Int) := by omega
      have hI2 : (e1 : Int) ≤ (text.size : Int) := by omega
      go_wp2_with fail
      exact bodyPost_ret (v := .tuple #[.agg #[.int .u8 2, .string (text.extract at_ e1), .int .i64 0], .int .i64 e1, .bool true]) (by simp [results, Tryd.results21, go_sem]) rfl (TP.yes HF.out rfl (by rw [extract_eq _ _ _ he1b, HNE.out]) (by rw [HE1.out]) ((Below.refl _ _).alloc (Nat.le_refl _) _))
    | true =>
      by_cases hb2 : e1 + 1 < text.size
      · obtain ⟨c2, hc2, hs2⟩ := str_at hb2
        have hc2l := c2.toNat_lt
        obtain ⟨b2, hb2'⟩ : ∃ b, b = Lex.digit c2 := ⟨_, rfl⟩
        have H2 := hide hb2'
        have HD2 : Hid (b2 = decide (0 < d)) := by
          show _ = _
          rw [hb2', HD.out, drop_at hc2]
          exact span_hd _ _ _
        have t3 : decide ((e1 : Int) + 1 < (text.size : Int)) = true := by simp; omega
        have t4 : (e1 : Int) + 1 < (text.size : Int) := by omega
        have hI0 : (0 : Int) ≤ (e1 : Int) + 1 := by omega
        have hT : ((e1 : Int) + 1).toNat = e1 + 1 := by omega
        clear hc2 hb2'
        go_wp2_with fail
        with_reducible refine (digit_any c2 _).mono ?_
        rintro e w' ⟨rfl, rfl⟩
        rw [← H2.out]
        cases b2 with
        | false =>
          have HF : Hid (o = some (2, _, n)) := HO3.out.trans (if_neg (by have := HD2.out; simp at this ⊢; omega))
          have hI1 : (at_ : Int) ≤ (e1 : Int) := by omega
          have hI2 : (e1 : Int) ≤ (text.size : Int) := by omega
          clear hT
          go_wp2_with fail
          exact bodyPost_ret (v := .tuple #[.agg #[.int .u8 2, .string (text.extract at_ e1), .int .i64 0], .int .i64 e1, .bool true]) (by simp [results, Tryd.results21, go_sem]) rfl (TP.yes HF.out rfl (by rw [extract_eq _ _ _ he1b, HNE.out]) (by rw [HE1.out]) ((Below.refl _ _).alloc (Nat.le_refl _) _))
        | true =>
          have hd0 : 0 < d := by have := HD2.out; simpa using this
          have HO4 : Hid (o = _) := HO3.out.trans (if_pos ⟨by simp, hd0⟩)
          clear hT
          go_wp2_with fail
          have hcast : (e1 : Int) + 1 = ((e1 + 1 : Nat) : Int) := by omega
          rw [hcast]
          with_reducible refine (span_any text (e1 + 1) 20 Lex.digit _ (by omega) run_digit digit_any (by omega)).mono ?_
          rintro e w' ⟨rfl, rfl⟩
          rw [← HD.out]
          obtain ⟨e2, he2⟩ : ∃ x, x = e1 + 1 + d := ⟨_, rfl⟩
          have HE2 := hide he2
          have he2a : at_ ≤ e2 := by omega
          have he2b : e2 ≤ text.size := by omega
          have HE2n : Hid (n + 1 + d = e2 - at_) := by have := HNE.out; show _ = _; omega
          have HE2d : Hid (d = e2 - (e1 + 1) ∧ e1 + 1 ≤ e2) := by constructor <;> omega
          rw [← he2]
          clear he2 hcast
          by_cases h4 : 4 < d
          · have HF : Hid (o = none) := HO4.out.trans (if_pos h4)
            have t5 : decide ((4 : Int) < (e2 : Int) - ((e1 : Int) + 1)) = true := by have := HE2d.out; simp; omega
            clear h4
            go_wp2_with fail
            exact bodyPost_ret (v := .tuple #[.agg #[.int .u8 0, .string ⟨#[]⟩, .int .i64 0], .int .i64 0, .bool false]) (by simp [results, Tryd.results21, go_sem]) rfl (TP.no HF.out ((Below.refl _ _).alloc (Nat.le_refl _) _))
          · have HF : Hid (o = some (2, _, n + 1 + d)) := HO4.out.trans (if_neg h4)
            have t5 : decide ((4 : Int) < (e2 : Int) - ((e1 : Int) + 1)) = false := by have := HE2d.out; simp; omega
            have hI1 : (at_ : Int) ≤ (e2 : Int) := by omega
            have hI2 : (e2 : Int) ≤ (text.size : Int) := by omega
            clear h4
            go_wp2_with fail
            exact bodyPost_ret (v := .tuple #[.agg #[.int .u8 2, .string (text.extract at_ e2), .int .i64 0], .int .i64 e2, .bool true]) (by simp [results, Tryd.results21, go_sem]) rfl (TP.yes HF.out rfl (by rw [extract_eq _ _ _ he2b, HE2n.out]) (by have := HE2.out; have := HE1.out; omega) ((Below.refl _ _).alloc (Nat.le_refl _) _))
      · have hd0 : d = 0 := by omega
        have HF : Hid (o = some (2, _, n)) := HO3.out.trans (if_neg (by rintro ⟨_, h⟩; omega))
        have t3 : decide ((e1 : Int) + 1 < (text.size : Int)) = false := by simp; omega
        have hI1 : (at_ : Int) ≤ (e1 : Int) := by omega
        have hI2 : (e1 : Int) ≤ (text.size : Int) := by omega
        clear hd0
        go_wp2_with fail
        exact bodyPost_ret (v := .tuple #[.agg #[.int .u8 2, .string (text.extract at_ e1), .int .i64 0], .int .i64 e1, .bool true]) (by simp [results, Tryd.results21, go_sem]) rfl (TP.yes HF.out rfl (by rw [extract_eq _ _ _ he1b, HNE.out]) (by rw [HE1.out]) ((Below.refl _ _).alloc (Nat.le_refl _) _))
end Go.Proofs.YtfoolkjamadfdaaDoor
