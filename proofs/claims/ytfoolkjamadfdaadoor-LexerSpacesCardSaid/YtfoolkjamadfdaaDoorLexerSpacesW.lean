/-
  The walk of chancerylaw19.LexerSpaces: it returns true. Conditions: the library's number is an int; the texts are within the reach.
-/
import Derived.Test.YtfoolkjamadfdaaDoorSameTok
import Derived.Test.YtfoolkjamadfdaaDoorSpaceNote
namespace Go.Proofs.YtfoolkjamadfdaaDoor
open Go.RowKit

theorem told_zero {l : List UInt8} {ts : List Lex.Tok} {p : Nat} (h : Lex.told l = (ts, 0, p)) : p = 0 := by
  unfold Lex.told at h
  cases ht : Lex.tokens l with
  | ok x => rw [ht] at h; simp at h; exact h.2.symm
  | error e =>
    rw [ht] at h
    simp at h
    unfold Lex.tokens at ht
    split at ht
    · injection ht with ht
      rw [← ht] at h
      simp at h
    · split at ht
      · injection ht with ht
        rw [← ht] at h
        simp at h
      · cases ht
theorem replace_at (s : ByteArray) (S : ByteArray) (nt : List UInt8) (m : Int) (w : World) (hs : s.size ≤ 10) (hM : Num w m) (hnt : nt = Lib.replaceAll s.data.toList [10] [32]) (hS : S = ⟨nt.toArray⟩) :
    Calls Tryd.prog 6 #[.string s, .string ⟨#[10]⟩, .string ⟨#[32]⟩] w fun e w' => e = .returned (.string S) ∧ Below w.heap.size w w' := by
  subst hS hnt
  have hc : Lib.countB s ⟨#[10]⟩ ≤ s.size := by
    have := Lex.count_ten _ s.data.toList (Nat.le_refl _)
    rw [str_len] at this
    exact this
  have h1 : (⟨#[32]⟩ : ByteArray).size = 1 := rfl
  exact Tryd.strings_ReplaceAll s ⟨#[10]⟩ ⟨#[32]⟩ m w (by omega) hM (by decide) (by rw [h1]; omega)
theorem wide_data {s a N : ByteArray} {nt T : List UInt8} {at_ e : Nat} (hN : N = ⟨nt.toArray⟩) (hT : T = a.data.toList) (he : e ≤ a.size) : (s ++ ⟨#[9, 32, 45, 45]⟩ ++ N ++ ⟨#[10, 32]⟩ ++ a.extract at_ e).data.toList = s.data.toList ++ [9, 32, 45, 45] ++ nt ++ [10, 32] ++ (T.drop at_).take (e - at_) := by
  subst hN hT
  rw [extract_eq _ _ _ he]
  simp [ByteArray.data_append]

set_option maxRecDepth 20000 in
set_option maxHeartbeats 8000000 in
theorem lexerSpaces_any (a b : ByteArray) (m : Int) (w : World) (hM : Num w m) (ha : a.size ≤ 140737488355328) (hb : b.size ≤ 140737488355328) :
    Calls Tryd.prog 3 #[.string a, .string b] w fun e w' => e = .returned (.bool true) ∧ Below w.heap.size w w' := by
  have hpos := hM.pos
  have HM := hide hM
  have HXa : Hid (a.size ≤ maxLen) := by unfold maxLen; show _ ≤ _; omega
  obtain ⟨ta, ea, pa, hta⟩ : ∃ ts e p, Lex.told a.data.toList = (ts, e, p) := ⟨_, _, _, rfl⟩
  have HTa := hide hta
  clear hta hM
  go_enter Tryd.func3, Tryd.ntmps3
  go_wp2_with fail
  obtain ⟨w0, hw0⟩ : ∃ x, x = w := ⟨_, rfl⟩
  have HB0 : Hid (Below w.heap.size w w0) := by rw [hw0]; exact Below.refl _ _
  have hz0 : w.heap.size ≤ w0.heap.size := by rw [hw0]; exact Nat.le_refl _
  rw [← hw0] at HM ⊢
  clear hw0
  with_reducible refine (tokens_any a w0 HXa.out).mono ?_
  rintro e w1 hpost
  obtain ⟨Aa, ca, rfl, hoa, hb1, hlca, hcma⟩ := hpost.is HTa.out
  clear hpost
  have HOa := hide (show Own _ _ _ _ _ _ _ from hoa)
  clear hoa
  replace HM := hide (HM.out.below hb1 (by omega))
  have HB1 := hide (HB0.out.trans (hb1.mono (by omega)))
  have hz1 := hb1.size
  clear hb1 HB0
  have u1 := neqF
  have u2 := guardF
  have u3 := eqlF
  by_cases hea : ea = 0
  · subst hea
    have hpa : pa = 0 := told_zero HTa.out
    subst hpa
    by_cases h300 : 300 < a.size
    · have t1 : decide ((300 : Int) < (a.size : Int)) = true := by simp; omega
      go_wp2_with fail
      with_reducible refine (awake_any m _ (HM.out.alloc _)).mono ?_
      rintro e w' ⟨rfl, hbe⟩
      have HBE := hide ((HB1.out.alloc (by omega) (.cells #[.int .i64 0, .int .i64 0] 25)).trans (hbe.mono (by simp; omega)))
      clear hbe
      go_wp2_with fail
      go_ret
      exact ⟨rfl, HBE.out⟩
    · have t1 : decide ((300 : Int) < (a.size : Int)) = false := by simp; omega
      by_cases h10 : 10 < b.size
      · have t2 : decide ((10 : Int) < (b.size : Int)) = true := by simp; omega
        go_wp2_with fail
        with_reducible refine (awake_any m _ (HM.out.alloc _)).mono ?_
        rintro e w' ⟨rfl, hbe⟩
        have HBE := hide ((HB1.out.alloc (by omega) (.cells #[.int .i64 0, .int .i64 0] 25)).trans (hbe.mono (by simp; omega)))
        clear hbe
        go_wp2_with fail
        go_ret
        exact ⟨rfl, HBE.out⟩
      · have t2 : decide ((10 : Int) < (b.size : Int)) = false := by simp; omega
        by_cases h100 : 100 < ta.length
        · have t3 : decide ((100 : Int) < (ta.length : Int)) = true := by simp; omega
          go_wp2_with fail
          with_reducible refine (awake_any m _ (HM.out.alloc _)).mono ?_
          rintro e w' ⟨rfl, hbe⟩
          have HBE := hide ((HB1.out.alloc (by omega) (.cells #[.int .i64 0, .int .i64 0] 25)).trans (hbe.mono (by simp; omega)))
          clear hbe
          go_wp2_with fail
          go_ret
          exact ⟨rfl, HBE.out⟩
        · have t3 : decide ((100 : Int) < (ta.length : Int)) = false := by simp; omega
          obtain ⟨nt, hnt⟩ : ∃ nt, nt = Lib.replaceAll b.data.toList [10] [32] := ⟨_, rfl⟩
          have HNt := hide hnt
          obtain ⟨S, hS⟩ : ∃ S : ByteArray, S = ⟨nt.toArray⟩ := ⟨_, rfl⟩
          have HS := hide hS
          have hS10 : S.size ≤ 10 := by
            have := (Lex.note_ten b.data.toList).1
            rw [← hnt, str_len] at this
            have e : S.size = nt.length := by rw [hS, ← str_len]
            omega
          have HNo : Hid (∀ c ∈ nt, c.toNat ≠ 10) := by rw [hnt]; exact (Lex.note_ten b.data.toList).2
          obtain ⟨T, hT⟩ : ∃ T, T = a.data.toList := ⟨_, rfl⟩
          have HT := hide hT
          have hTl : T.length = a.size := by rw [hT, str_len]
          have HTl := hide hTl
          have HRi : Hid (Lex.Rise T.length ta) := by rw [hT]; exact Lex.told_rise HTa.out
          clear hnt hS hT hTl
          go_wp2_with fail
          clear u1 u2 u3
          obtain ⟨w2, hw2⟩ : ∃ x, x = w1.alloc (.cells #[.int .i64 0, .int .i64 0] 25) := ⟨_, rfl⟩
          rw [← hw2]
          have hba2 : Below w1.heap.size w1 w2 := by rw [hw2]; exact (Below.refl _ _).alloc (Nat.le_refl _) _
          have hst2 : w1.heap.size < w2.heap.size := by rw [hw2]; simp
          clear hw2
          replace HM := hide (HM.out.below hba2 (by omega))
          replace HOa := hide (HOa.out.below hba2 (by omega))
          have HB2 := hide (HB1.out.trans (hba2.mono (by omega)))
          have hz2 := hba2.size
          clear hba2 HB1
          with_reducible refine (replace_at b S nt m w2 (by omega) HM.out HNt.out HS.out).mono ?_
          rintro e w3 ⟨rfl, hb3⟩
          replace HM := hide (HM.out.below hb3 (by omega))
          replace HOa := hide (HOa.out.below hb3 (by omega))
          have HB3 := hide (HB2.out.trans (hb3.mono (by omega)))
          have hz3 := hb3.size
          clear hb3 HB2
          go_wp2_with fail
          have HRk := hide (Rk.own HOa.out.row)
          go_loop [7, 8] (fun v i => ∃ (k : Nat) (s : ByteArray), k ≤ ta.length ∧ i = .int .i64 (k : Nat) ∧ v = .string s ∧ s.size ≤ 316 * k ∧ Hid (Lex.wideOf nt T ta = s.data.toList ++ Lex.wideOf nt T (ta.drop k))) (fun _ i => ta.length - (intOf i).toNat)
          case atStart => exact ⟨0, ⟨#[]⟩, Nat.zero_le _, rfl, rfl, Nat.le_refl _, by show _ = _; simp⟩
          case round =>
            obtain ⟨k, s, hk, rfl, rfl, hs, HW⟩ := hrel
            by_cases hlt : k < ta.length
            · obtain ⟨bx, offx, kd, ss, at_, rfl, _, hx, _, _, h2⟩ := HRk.out.at hlt
              have hkI : (k : Int) < (ta.length : Int) := by omega
              have hri := HRi.out.drop k
              rw [Lex.drop_tok hx] at hri
              obtain ⟨hr1, hr2, -⟩ := hri
              have hr1' : at_ ≤ Lex.endOf T.length (ta.drop (k + 1)) := hr1
              obtain ⟨E, hE⟩ : ∃ E, E = Lex.endOf T.length (ta.drop (k + 1)) := ⟨_, rfl⟩
              rw [← hE] at hr1' hr2
              rw [HTl.out] at hr2
              have HN := hide (Lex.wide_round HW.out hx hE)
              have HE := hide hE
              clear hr1 hx hE
              have e1 : (at_ : Int) ≤ (E : Int) := by omega
              have e2 : (E : Int) ≤ (a.size : Int) := by omega
              have hex : (a.extract at_ E).size ≤ 300 := by rw [ByteArray.size_extract]; omega
              by_cases hk1 : k + 1 < ta.length
              · obtain ⟨by', offy, kd', ss', at', ey, _, hy, _, _, h2'⟩ := HRk.out.at hk1
                injection ey with ey
                injection ey with ey1 ey2
                subst ey1 ey2
                obtain rfl : at' = E := (Lex.endOf_next hy).symm.trans HE.out.symm
                have hk1I : (k : Int) + 1 < (ta.length : Int) := by omega
                have hk1D : decide ((k : Int) + 1 < (ta.length : Int)) = true := by simp; omega
                clear hy
                go_wp2_with fail
                go_round
                case rel =>
                  refine ⟨k + 1, _, hlt, by go_num, rfl, ?_, ?_⟩
                  · simp only [ByteArray.size_append]
                    have q1 : (⟨#[9, 32, 45, 45]⟩ : ByteArray).size = 4 := rfl
                    have q2 : (⟨#[10, 32]⟩ : ByteArray).size = 2 := rfl
                    omega
                  · show _ = _
                    rw [wide_data HS.out HT.out hr2]
                    exact HN.out
                case measure => simp [intOf]; omega
              · obtain rfl : E = a.size := by rw [HE.out, Lex.endOf_last (by omega), HTl.out]
                have hk1D : decide ((k : Int) + 1 < (ta.length : Int)) = false := by simp; omega
                go_wp2_with fail
                go_round
                case rel =>
                  refine ⟨k + 1, _, hlt, by go_num, rfl, ?_, ?_⟩
                  · simp only [ByteArray.size_append]
                    have q1 : (⟨#[9, 32, 45, 45]⟩ : ByteArray).size = 4 := rfl
                    have q2 : (⟨#[10, 32]⟩ : ByteArray).size = 2 := rfl
                    omega
                  · show _ = _
                    rw [wide_data HS.out HT.out hr2]
                    exact HN.out
                case measure => simp [intOf]; omega
            · obtain rfl : k = ta.length := by omega
              have HW2 : Hid (Lex.wideOf nt T ta = s.data.toList) := by
                have := HW.out
                rw [List.drop_of_length_le (Nat.le_refl _)] at this
                show _ = _
                simpa [Lex.wideOf] using this
              have HXs : Hid (s.size ≤ maxLen) := by unfold maxLen; show _ ≤ _; omega
              obtain ⟨tj, ej, pj, htj⟩ : ∃ ts e p, Lex.told s.data.toList = (ts, e, p) := ⟨_, _, _, rfl⟩
              have HTj := hide htj
              clear htj HRk HW
              go_wp2_with fail
              with_reducible refine (tokens_any s w3 HXs.out).mono ?_
              rintro e w4 hpost
              obtain ⟨Aj, cj, rfl, hoj, hb4, hlcj, hcmj⟩ := hpost.is HTj.out
              clear hpost
              have HOj := hide (show Own _ _ _ _ _ _ _ from hoj)
              clear hoj
              replace HM := hide (HM.out.below hb4 (by omega))
              replace HOa := hide (HOa.out.below hb4 (by omega))
              have HB4 := hide (HB3.out.trans (hb4.mono (by omega)))
              have hz4 := hb4.size
              clear hb4 HB3
              have u1 := neqF
              have u2 := guardF
              have u3 := eqlF
              by_cases hlong : 4096 < s.size
              · have e1 := HTj.out.symm.trans (Lex.told_long (by rw [str_len]; exact hlong))
                simp only [Prod.mk.injEq] at e1
                obtain ⟨e1a, rfl, rfl⟩ := e1
                have t4 : decide ((4096 : Int) < (s.size : Int)) = true := by simp; omega
                clear e1a hlong
                go_wp2_with fail
                with_reducible refine (awake_any m _ (HM.out.alloc _)).mono ?_
                rintro e w' ⟨rfl, hbe⟩
                have HBE := hide ((HB4.out.alloc (by omega) (.cells #[.int .i64 3, .int .i64 0] 25)).trans (hbe.mono (by simp; omega)))
                clear hbe
                go_wp2_with fail
                go_ret
                exact ⟨rfl, HBE.out⟩
              · have t4 : decide ((4096 : Int) < (s.size : Int)) = false := by simp; omega
                have HQ : Hid (ej = 0 ∧ pj = 0 ∧ skel ta = skel tj) := by
                  have hta := HTa.out
                  rw [← HT.out] at hta
                  obtain ⟨ts', h1, h2⟩ := Lex.told_wide HNo.out hta (by rw [HW2.out, str_len]; exact hlong)
                  rw [HW2.out, HTj.out] at h1
                  simp only [Prod.mk.injEq] at h1
                  obtain ⟨rfl, h3, h4⟩ := h1
                  exact ⟨h3, h4, h2.symm⟩
                obtain ⟨rfl, rfl, hsk⟩ := HQ.out
                have HSk := hide hsk
                clear hsk hlong HQ
                go_wp2_with fail
                obtain ⟨w5, hw5⟩ : ∃ x, x = w4.alloc (.cells #[.int .i64 0, .int .i64 0] 25) := ⟨_, rfl⟩
                rw [← hw5]
                have hba5 : Below w4.heap.size w4 w5 := by rw [hw5]; exact (Below.refl _ _).alloc (Nat.le_refl _) _
                have hst5 : w4.heap.size < w5.heap.size := by rw [hw5]; simp
                clear hw5
                replace HM := hide (HM.out.below hba5 (by omega))
                replace HOa := hide (HOa.out.below hba5 (by omega))
                replace HOj := hide (HOj.out.below hba5 (by omega))
                have HB5 := hide (HB4.out.trans (hba5.mono (by omega)))
                have hz5 := hba5.size
                clear hba5 HB4
                clear u1 u2 u3
                with_reducible refine (same_any Aa Aj ta.length ca tj.length cj ta tj w5 _ _ (Rk.own HOa.out.row) (Rk.own HOj.out.row) (by omega)).mono ?_
                rintro e w' ⟨b7, rfl, hb7, q6, rfl⟩
                obtain rfl : b7 = true := hb7.2 HSk.out
                clear hb7
                obtain ⟨w6, hw6⟩ : ∃ x, x = w5.drewN q6 := ⟨_, rfl⟩
                rw [← hw6]
                replace HM := hide (HM.out.drewE hw6)
                replace HOa := hide (HOa.out.drewE hw6)
                replace HOj := hide (HOj.out.drewE hw6)
                have HB6 := hide (Below.drewE HB5.out hw6)
                have hz6 : w5.heap.size ≤ w6.heap.size := by rw [hw6]; exact Nat.le_refl _
                clear hw6 HB5
                go_wp2_with fail
                with_reducible refine (awake_any m w6 HM.out).mono ?_
                rintro e w7 ⟨rfl, hb7⟩
                replace HM := hide (HM.out.below hb7 (by omega))
                replace HOa := hide (HOa.out.below hb7 (by omega))
                replace HOj := hide (HOj.out.below hb7 (by omega))
                have HB7 := hide (HB6.out.trans (hb7.mono (by omega)))
                have hz7 := hb7.size
                clear hb7 HB6
                go_wp2_with fail
                go_ret
                exact ⟨rfl, HB7.out⟩
  · have q1 : ((ea : Int) == 0) = false := by simp; exact hea
    clear hea
    go_wp2_with fail
    with_reducible refine (awake_any m _ (HM.out.alloc _)).mono ?_
    rintro e w' ⟨rfl, hbe⟩
    have HBE := hide ((HB1.out.alloc (by omega) (.cells #[.int .i64 ((ea : Nat) : Int), .int .i64 ((pa : Nat) : Int)] 25)).trans (hbe.mono (by simp; omega)))
    clear hbe
    go_wp2_with fail
    go_ret
    exact ⟨rfl, HBE.out⟩
end Go.Proofs.YtfoolkjamadfdaaDoor
