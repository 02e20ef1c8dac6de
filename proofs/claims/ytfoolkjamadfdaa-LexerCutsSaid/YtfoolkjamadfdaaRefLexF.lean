/-
  The walk of chanceryref19.one: numbers. Conditions: the text has at most 2^40 bytes. (printed by refone.py)
-/
import Derived.Test.YtfoolkjamadfdaaRefLexC
import Derived.Deep.CutBlock
namespace Go.Proofs.Ytfoolkjamadfdaa
open Go.RowKit


set_option maxRecDepth 100000 in
set_option maxHeartbeats 6400000 in
theorem one_number (text : ByteArray) (at_ : Nat) (w : World) (hm : text.size ≤ 1099511627776) (hat : at_ < text.size) (c : UInt8) (hc : text.data.toList[at_]? = some c) (hlet : Lex.letter c = false) (hdig : Lex.digit c = true) :
    Calls Try.prog 18 #[.string text, .int .i64 (at_ : Int)] w (TQ w at_ (Lex.token (text.data.toList.drop at_))) := by
  have HL := hide (str_len text)
  obtain ⟨o, ho⟩ : ∃ o, o = Lex.token (text.data.toList.drop at_) := ⟨_, rfl⟩
  rw [← ho]
  have HW : Hid (o = Lex.numberT (text.data.toList.drop at_)) := by
    show _ = _
    rw [ho, token_drop hc, if_neg (fun h => absurd hlet (by simp [Lex.letter, h.1])), if_neg (by rw [hlet]; simp), if_pos hdig]
  have hs : text[at_] = c := by
    obtain ⟨d, h1, h2⟩ := str_at hat
    rw [hc] at h1
    injection h1 with h1
    rw [h1]
    exact h2
  have hcl := c.toNat_lt
  have h120 : c.toNat ≠ 120 := fun h => absurd hlet (by simp [Lex.letter, h])
  have HLt := hide hlet
  have HDg := hide hdig
  have q120 : ((c.toNat : Int) == 120) = false := by simp; omega
  have hn := Lex.span_le Lex.digit (text.data.toList.drop at_)
  rw [List.length_drop, HL.out] at hn
  have ho2 := HW.out
  unfold Lex.numberT at ho2
  have hpos : 0 < Lex.span Lex.digit (text.data.toList.drop at_) := by
    rw [drop_at hc]
    exact of_decide_eq_true ((span_hd Lex.digit c _).symm.trans hdig)
  obtain ⟨n, hnd⟩ : ∃ n, n = Lex.span Lex.digit (text.data.toList.drop at_) := ⟨_, rfl⟩
  rw [← hnd] at hn ho2 hpos
  rw [Lex.isAt_drop, Lex.isAt_drop, Nat.add_zero, List.drop_drop] at ho2
  have h48 : Lex.isAt text.data.toList at_ 48 = ((c.toNat : Int) == 48) := by
    unfold Lex.isAt
    rw [hc, Bool.eq_iff_iff]
    simp only [Option.some.injEq, decide_eq_true_eq, beq_iff_eq]
    exact ⟨fun h => by rw [h]; rfl, fun h => UInt8.toNat_inj.1 (by show _ = 48; omega)⟩
  rw [h48] at ho2
  obtain ⟨e1, he1⟩ : ∃ x, x = at_ + n := ⟨_, rfl⟩
  have he1a : at_ < e1 := by omega
  have he1b : e1 ≤ text.size := by omega
  have HE1 : Hid (e1 = at_ + n ∧ e1 - at_ = n) := ⟨he1, by omega⟩
  have HTot : Hid (at_ + Lex.span Lex.digit (text.data.toList.drop at_) = e1) := by show _ = _; rw [← hnd, he1]
  rw [show at_ + (n + 1) = e1 + 1 by omega, ← he1] at ho2
  obtain ⟨d, hd⟩ : ∃ d, d = Lex.span Lex.digit (text.data.toList.drop (e1 + 1)) := ⟨_, rfl⟩
  rw [← hd] at ho2
  have hdl := Lex.span_le Lex.digit (text.data.toList.drop (e1 + 1))
  rw [← hd, List.length_drop, HL.out] at hdl
  obtain ⟨e2, he2⟩ : ∃ x, x = e1 + 1 + d := ⟨_, rfl⟩
  have HE2 : Hid (e2 = e1 + 1 + d ∧ e2 - at_ = n + 1 + d) := ⟨he2, by omega⟩
  have HTot2 : Hid (e1 + 1 + Lex.span Lex.digit (text.data.toList.drop (e1 + 1)) = e2) := by show _ = _; rw [← hd, he2]
  obtain ⟨b1, hb1⟩ : ∃ b, b = Lex.isAt text.data.toList e1 46 := ⟨_, rfl⟩
  rw [← hb1] at ho2
  obtain ⟨b2, hb2⟩ : ∃ b, b = decide (0 < d) := ⟨_, rfl⟩
  obtain ⟨okb, hokb⟩ : ∃ b, b = !(((c.toNat : Int) == 48) && decide (1 < n)) := ⟨_, rfl⟩
  have HO : Hid (o = if okb = false then none else if b1 = true ∧ b2 = true then (if 4 < d then none else some (2, (text.data.toList.drop at_).take (n + 1 + d), n + 1 + d)) else some (2, (text.data.toList.drop at_).take n, n)) := by
    show _ = _
    rw [ho2, hokb, hb2]
    simp only [Bool.not_eq_false', Bool.and_eq_true, decide_eq_true_eq]
  have HNo : Hid (okb = false → o = none) := fun h => by rw [HO.out, if_pos h]
  have HShort : Hid (okb = true → ¬ (b1 = true ∧ b2 = true) → o = some (2, (text.data.toList.drop at_).take n, n)) := fun h h2 => by rw [HO.out, if_neg (by rw [h]; simp), if_neg h2]
  have HLong0 : Hid (okb = true → b1 = true → b2 = true → 4 < d → o = none) := fun h h2 h3 h4 => by rw [HO.out, if_neg (by rw [h]; simp), if_pos ⟨h2, h3⟩, if_pos h4]
  have HLong1 : Hid (okb = true → b1 = true → b2 = true → ¬ 4 < d → o = some (2, (text.data.toList.drop at_).take (n + 1 + d), n + 1 + d)) := fun h h2 h3 h4 => by rw [HO.out, if_neg (by rw [h]; simp), if_pos ⟨h2, h3⟩, if_neg h4]
  clear HO
  have HD2 : Hid (Lex.digit (atB text.data.toList (e1 + 1)) = b2) := by
    show _ = _
    rw [digit_at, ← hd, hb2]
  have H1 := hide hb1
  have HOk := hide hokb
  have HN1 : Hid (b2 = true → e1 + 1 < text.size) := by
    intro h
    rw [hb2, decide_eq_true_eq] at h
    omega
  have HD := hide (show e2 = e1 + 1 + d ∧ e2 ≤ text.size + 1 ∧ (0 < d → e2 ≤ text.size) from ⟨he2, by omega, by omega⟩)
  have hI1 : (at_ : Int) ≤ (e1 : Int) := by omega
  have hI2 : (e1 : Int) ≤ (text.size : Int) := by omega
  have Hb2 := hide hb2
  clear ho hc hlet hdig h120 hnd ho2 h48 he1 hd he2 hb1 hb2 hokb HW hn hdl
  go_enter Try.func18, Try.ntmps18
  go_wp2_with fail
  with_reducible refine (rletter_any c _).mono ?_
  rintro e w1 ⟨rfl, hw1⟩
  rw [HLt.out]
  have HOn : Hid (On w w1 at_) := by rw [← hw1]; exact On.new w at_
  clear hw1
  go_wp2_with fail
  with_reducible refine (rdigit_any c _).mono ?_
  rintro e w' ⟨rfl, rfl⟩
  rw [HDg.out]
  go_upto_block 3 with fail
  go_cut [10] (fun s10 wx => wx = w1 ∧ s10 = .int .i64 (e1 : Int))
  case first =>
    go_wp2_with fail
    go_loopg [10] (text.size - at_) (fun g a wr => ∃ k : Nat, g = text.size - k ∧ wr = w1 ∧ a = .int .i64 (k : Nat) ∧ at_ ≤ k ∧ k ≤ text.size ∧ Hid (∀ j d, j < k - at_ → (text.data.toList.drop (at_))[j]? = some d → Lex.digit d = true))
    case atStart => exact ⟨at_, rfl, rfl, by go_num, Nat.le_refl _, by omega, fun j d h => absurd h (by omega)⟩
    case round =>
      obtain ⟨k, rfl, rfl, rfl, hak, hk, HK⟩ := hrel
      by_cases hlt : k < text.size
      · obtain ⟨d, hd, hsd⟩ := str_at hlt
        have HDk := hide hd
        have hdl := d.toNat_lt
        have hkI : (k : Int) < (text.size : Int) := by omega
        clear hd
        go_wp2_with fail
        with_reducible refine (rdigit_any d _).mono ?_
        rintro e w' ⟨rfl, rfl⟩
        cases hdd : Lex.digit d with
        | true =>
          have Hdd := hide hdd
          clear hdd
          have HN := hide (span_more HK.out hak HDk.out (Hdd.out))
          go_wp2_with fail
          go_roundg (text.size - (k + 1))
          case measure => omega
          case rel => exact ⟨k + 1, rfl, rfl, by go_num, by omega, by omega, HN.out⟩
        | false =>
          have Hdd := hide hdd
          clear hdd
          have HE := hide (HTot.out.symm.trans (span_end HK.out hak (by rw [HL.out]; exact hk) (by intro d2 h2; rw [HDk.out] at h2; injection h2 with h2; rw [← h2]; exact Hdd.out)))
          go_wp2_with fail
          go_meet
          exact ⟨rfl, by rw [HE.out]⟩
      · have hkI : ¬ (k : Int) < (text.size : Int) := by omega
        have HE := hide (HTot.out.symm.trans (span_end HK.out hak (by rw [HL.out]; exact hk) (by intro d2 h2; rw [List.getElem?_eq_none (by rw [HL.out]; omega)] at h2; cases h2)))
        go_wp2_with fail
        go_meet
        exact ⟨rfl, by rw [HE.out]⟩
  case rest =>
    obtain ⟨rfl, rfl⟩ := hcut
    go_upto_region 18 with fail
    go_cut [9] (fun s9 wx => wx = wc ∧ s9 = .bool okb)
    case first =>
      by_cases hn1 : n = 1
      · have t1 : ((e1 : Int) == (at_ : Int) + 1) = true := by have := HE1.out; simp; omega
        have HV : Hid (okb = true) := by show _ = _; rw [HOk.out, hn1]; simp
        clear hn1
        go_wp2_with fail
        go_meet
        exact ⟨rfl, by rw [HV.out]⟩
      · have t1 : ((e1 : Int) == (at_ : Int) + 1) = false := by have := HE1.out; simp; omega
        have hd1 : decide (1 < n) = true := by simp; omega
        cases q48 : ((c.toNat : Int) == 48) with
        | true =>
          have HV : Hid (okb = false) := by show _ = _; rw [HOk.out, hd1, q48]; rfl
          clear hn1 hd1
          go_wp2_with fail
          go_meet
          exact ⟨rfl, by rw [HV.out, bne, q48]; rfl⟩
        | false =>
          have HV : Hid (okb = true) := by show _ = _; rw [HOk.out, q48]; rfl
          clear hn1 hd1
          go_wp2_with fail
          go_meet
          exact ⟨rfl, by rw [HV.out, bne, q48]; rfl⟩
    case rest =>
      obtain ⟨rfl, rfl⟩ := hcut
      obtain ⟨⟨a0, a1, a2⟩, ⟨b0, b1', b2'⟩, fa, fb⟩ := HOn.out.cells
      have fa0 := fa 0
      have fa1 := fa 1
      have fa2 := fa 2
      have fb0 := fb 0
      have fb1 := fb 1
      have fb2 := fb 2
      have la := HOn.out.2.1.lt
      have lb := HOn.out.2.2.lt
      clear fa fb
      go_wp2_with fail
      with_reducible refine (rat_any text _ (e1) _ (by omega)).mono ?_
      rintro e w' ⟨rfl, rfl⟩
      obtain ⟨x1, hx1⟩ : ∃ a, a = atB text.data.toList (e1) := ⟨_, rfl⟩
      have qx1 := at_is text.data.toList (e1) 46 (by decide) 46 rfl
      rw [← hx1, ← H1.out] at qx1
      rw [← hx1]
      clear hx1
      cases b1 with
      | false =>
        have HF : Hid (okb = true → o = some (2, (text.data.toList.drop at_).take n, n)) := fun h => HShort.out h (by simp)
        clear HShort HLong0 HLong1
        go_wp2_with fail
        refine bodyPost_ret (v := .tuple #[.agg #[.int .u8 2, .string (text.extract at_ e1), .int .i64 (at_ : Int)], .int .i64 (e1 : Int), .bool okb]) (by simp [results, Try.results18, go_sem, a0, a1, a2]) rfl ?_
        cases okb with
        | true => exact TQ.yes (HF.out rfl) rfl (by rw [extract_eq _ _ _ he1b, HE1.out.2]) (by rw [HE1.out.1]) (HOn.out.five _ _ _ _ _)
        | false => exact TQ.no (HNo.out rfl) (HOn.out.five _ _ _ _ _)
      | true =>
        go_wp2_with fail
        with_reducible refine (rat_any text _ (e1 + 1) _ (by omega)).mono ?_
        rintro e w' ⟨rfl, rfl⟩
        obtain ⟨x2, hx2⟩ : ∃ a, a = atB text.data.toList (e1 + 1) := ⟨_, rfl⟩
        have HX2 : Hid (Lex.digit x2 = b2) := by show _ = _; rw [hx2]; exact HD2.out
        rw [← hx2]
        clear hx2
        go_wp2_with fail
        with_reducible refine (rdigit_any x2 _).mono ?_
        rintro e w' ⟨rfl, rfl⟩
        rw [HX2.out]
        cases b2 with
        | false =>
          have HF : Hid (okb = true → o = some (2, (text.data.toList.drop at_).take n, n)) := fun h => HShort.out h (by simp)
          clear HShort HLong0 HLong1
          go_wp2_with fail
          refine bodyPost_ret (v := .tuple #[.agg #[.int .u8 2, .string (text.extract at_ e1), .int .i64 (at_ : Int)], .int .i64 (e1 : Int), .bool okb]) (by simp [results, Try.results18, go_sem, a0, a1, a2]) rfl ?_
          cases okb with
          | true => exact TQ.yes (HF.out rfl) rfl (by rw [extract_eq _ _ _ he1b, HE1.out.2]) (by rw [HE1.out.1]) (HOn.out.five _ _ _ _ _)
          | false => exact TQ.no (HNo.out rfl) (HOn.out.five _ _ _ _ _)
        | true =>
          have hlt1 := HN1.out rfl
          have hd0 : 0 < d := of_decide_eq_true Hb2.out.symm
          have he2b := HD.out.2.2 hd0
          have hJ1 : (at_ : Int) ≤ (e2 : Int) := by have := HD.out.1; omega
          have hJ2 : (e2 : Int) ≤ (text.size : Int) := by omega
          obtain ⟨s1, hs1⟩ : ∃ x, x = e1 + 1 := ⟨_, rfl⟩
          have HS1 := hide hs1
          have HTot3 : Hid (s1 + Lex.span Lex.digit (text.data.toList.drop s1) = e2) := by show _ = _; rw [hs1]; exact HTot2.out
          have hs1b : s1 ≤ text.size := by omega
          clear hs1
          go_upto_block 5 with fail
          go_cut [11] (fun s11 wx => wx = wc ∧ s11 = .int .i64 (e2 : Int))
          case first =>
            go_wp2_with fail
            go_loopg [11] (text.size - s1) (fun g a wr => ∃ k : Nat, g = text.size - k ∧ wr = wc ∧ a = .int .i64 (k : Nat) ∧ s1 ≤ k ∧ k ≤ text.size ∧ Hid (∀ j d, j < k - s1 → (text.data.toList.drop (s1))[j]? = some d → Lex.digit d = true))
            case atStart => exact ⟨s1, rfl, rfl, by have := HS1.out; go_num, Nat.le_refl _, by omega, fun j d h => absurd h (by omega)⟩
            case round =>
              obtain ⟨k, rfl, rfl, rfl, hak, hk, HK⟩ := hrel
              by_cases hlt : k < text.size
              · obtain ⟨d, hd, hsd⟩ := str_at hlt
                have HDk := hide hd
                have hdl := d.toNat_lt
                have hkI : (k : Int) < (text.size : Int) := by omega
                clear hd
                go_wp2_with fail
                with_reducible refine (rdigit_any d _).mono ?_
                rintro e w' ⟨rfl, rfl⟩
                cases hdd : Lex.digit d with
                | true =>
                  have Hdd := hide hdd
                  clear hdd
                  have HN := hide (span_more HK.out hak HDk.out (Hdd.out))
                  go_wp2_with fail
                  go_roundg (text.size - (k + 1))
                  case measure => omega
                  case rel => exact ⟨k + 1, rfl, rfl, by go_num, by omega, by omega, HN.out⟩
                | false =>
                  have Hdd := hide hdd
                  clear hdd
                  have HE := hide (HTot3.out.symm.trans (span_end HK.out hak (by rw [HL.out]; exact hk) (by intro d2 h2; rw [HDk.out] at h2; injection h2 with h2; rw [← h2]; exact Hdd.out)))
                  go_wp2_with fail
                  go_meet
                  exact ⟨rfl, by rw [HE.out]⟩
              · have hkI : ¬ (k : Int) < (text.size : Int) := by omega
                have HE := hide (HTot3.out.symm.trans (span_end HK.out hak (by rw [HL.out]; exact hk) (by intro d2 h2; rw [List.getElem?_eq_none (by rw [HL.out]; omega)] at h2; cases h2)))
                go_wp2_with fail
                go_meet
                exact ⟨rfl, by rw [HE.out]⟩
          case rest =>
            obtain ⟨rfl, rfl⟩ := hcut
            cases okb with
            | false =>
              have HF := hide (HNo.out rfl)
              go_wp2_with fail
              refine bodyPost_ret (v := .tuple #[.agg #[.int .u8 2, .string (text.extract at_ e2), .int .i64 (at_ : Int)], .int .i64 (e2 : Int), .bool false]) (by simp [results, Try.results18, go_sem, a0, a1, a2]) rfl ?_
              exact TQ.no HF.out (HOn.out.five _ _ _ _ _)
            | true =>
              by_cases h4 : 4 < d
              · have HF := hide (HLong0.out (by trivial) (by trivial) (by trivial) h4)
                have t5 : decide ((e2 : Int) - (e1 : Int) ≤ 5) = false := by have := HD.out.1; simp; omega
                clear h4
                go_wp2_with fail
                refine bodyPost_ret (v := .tuple #[.agg #[.int .u8 2, .string (text.extract at_ e2), .int .i64 (at_ : Int)], .int .i64 (e2 : Int), .bool false]) (by simp [results, Try.results18, go_sem, a0, a1, a2]) rfl ?_
                exact TQ.no HF.out (HOn.out.five _ _ _ _ _)
              · have HF := hide (HLong1.out (by trivial) (by trivial) (by trivial) h4)
                have t5 : decide ((e2 : Int) - (e1 : Int) ≤ 5) = true := by have := HD.out.1; simp; omega
                clear h4
                go_wp2_with fail
                refine bodyPost_ret (v := .tuple #[.agg #[.int .u8 2, .string (text.extract at_ e2), .int .i64 (at_ : Int)], .int .i64 (e2 : Int), .bool true]) (by simp [results, Try.results18, go_sem, a0, a1, a2]) rfl ?_
                exact TQ.yes HF.out rfl (by rw [extract_eq _ _ _ he2b, HE2.out.2]) (by have := HE2.out.1; have := HE1.out.1; omega) (HOn.out.five _ _ _ _ _)
end Go.Proofs.Ytfoolkjamadfdaa
