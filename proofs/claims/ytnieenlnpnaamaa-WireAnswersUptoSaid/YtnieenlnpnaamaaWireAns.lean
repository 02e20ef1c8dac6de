/-
  The walk of wire.Answer: it is Wire.answer. Conditions: at most 4000000 rows.
-/
import Derived.Test.YtnieenlnpnaamaaAns
namespace Go.Proofs.Ytnieenlnpnaamaa
open Go.RowKit

set_option linter.unusedVariables false in
set_option maxRecDepth 8000 in
set_option maxHeartbeats 1600000 in
theorem wireAnswer_any (An : Option Addr) (nn cn : Nat) (ns : List ByteArray) (Ar : Option Addr) (nr cr : Nat) (rs : List (List Cell.Val)) (cnt : Int) (w : World) (hn : Rt w w.heap.size An nn ns) (hr : Rrs w w.heap.size Ar nr rs) (hnr : nr ≤ 4000000) (hnn : nn ≤ 4000000) :
    Calls Try.prog 19 #[.agg #[.slice An nn cn, .slice Ar nr cr, .int .i64 cnt]] w (AE w (Wire.answer ⟨ns, rs, cnt⟩)) := by
  have HN := hide hn
  have HNL := hide hn.len
  have HR := hide hr
  have HRL := hide hr.1
  clear hn hr
  obtain ⟨w1, hw1⟩ : ∃ w1, w1 = w.alloc (.cells #[.slice An nn cn, .slice Ar nr cr, .int .i64 cnt] 50) := ⟨_, rfl⟩
  have HK : Hid (Blk w1 w.heap.size 50 #[.slice An nn cn, .slice Ar nr cr, .int .i64 cnt]) := by rw [hw1]; exact Blk.new _ _ _
  have HB : Hid (Below w.heap.size w w1) := by rw [hw1]; exact (Below.refl _ _).alloc (Nat.le_refl _) _
  have hs1 : w.heap.size < w1.heap.size := by rw [hw1]; simp
  have k0 := HK.out.cell 0
  have k1 := HK.out.cell 1
  have k2 := HK.out.cell 2
  simp at k0 k1 k2
  have HBd := badA_eq ns rs cnt
  rw [HNL.out, HRL.out] at HBd
  replace HBd := hide HBd
  go_enter Try.func19, Try.ntmps19
  go_upto_region 1 with fail
  rw [← hw1]
  clear hw1
  go_cut [31] (fun c wx => c = .bool (Wire.badA ⟨ns, rs, cnt⟩) ∧ wx = w1)
  case first =>
    by_cases h1 : nr = 0
    · subst h1
      by_cases h3 : cnt < 0
      · go_wp2_with fail
        go_meet
        exact ⟨congrArg Value.bool (by rw [HBd.out]; simp [h3]), rfl⟩
      · by_cases h4 : 2147483647 < cnt
        · go_wp2_with fail
          go_meet
          exact ⟨congrArg Value.bool (by rw [HBd.out]; simp [h4]), rfl⟩
        · go_wp2_with fail
          go_meet
          exact ⟨congrArg Value.bool (by rw [HBd.out]; simp [h3, h4]), rfl⟩
    · have h1p : 0 < nr := by omega
      have h1i : (0 : Int) < (nr : Int) := by omega
      by_cases h2 : nn = 0
      · subst h2
        go_wp2_with fail
        go_meet
        exact ⟨congrArg Value.bool (by rw [HBd.out]; simp [h1p]), rfl⟩
      · have t2 : ((nn : Int) == 0) = false := by simp; omega
        have h2d : decide (nn = 0) = false := by simp [h2]
        have H2 := hide h2d
        clear h2d
        by_cases h3 : cnt < 0
        · go_wp2_with fail
          go_meet
          exact ⟨congrArg Value.bool (by rw [HBd.out]; simp [h3]), rfl⟩
        · by_cases h4 : 2147483647 < cnt
          · go_wp2_with fail
            go_meet
            exact ⟨congrArg Value.bool (by rw [HBd.out]; simp [h4]), rfl⟩
          · go_wp2_with fail
            go_meet
            exact ⟨congrArg Value.bool (by rw [HBd.out, H2.out]; simp [h3, h4]), rfl⟩
  case rest =>
    obtain ⟨rfl, rfl⟩ := hcut
    cases hbad : Wire.badA ⟨ns, rs, cnt⟩ with
    | true =>
      have HP : Hid (Wire.answer ⟨ns, rs, cnt⟩ = (2, [])) := by show _ = _; unfold Wire.answer; rw [if_pos hbad]
      clear hbad
      go_wp2_with fail
      go_ret2
      exact AE.err 2 HP.out HB.out
    | false =>
      obtain ⟨hc1, hc2, hc3⟩ := Wire.badA_ok hbad
      simp only at hc1 hc2 hc3
      obtain ⟨cN, rfl⟩ : ∃ cN : Nat, cnt = (cN : Int) := ⟨cnt.toNat, by omega⟩
      have HBad := hide hbad
      have HC3 := hide hc3
      clear hbad hc3 HBd
      by_cases hlong : 255 < nn
      · have t1 : decide ((255 : Int) < (nn : Int)) = true := by simp; omega
        have HP : Hid (Wire.answer ⟨ns, rs, (cN : Int)⟩ = (3, [])) := by
          show _ = _
          unfold Wire.answer
          rw [if_neg (by rw [HBad.out]; simp), if_pos (by unfold Wire.longN; rw [HNL.out]; simp [hlong])]
        go_wp2_with fail
        go_ret2
        exact AE.err 3 HP.out HB.out
      · have t1 : decide ((255 : Int) < (nn : Int)) = false := by simp; omega
        obtain ⟨w2, hw2⟩ : ∃ w2, w2 = wc := ⟨_, rfl⟩
        subst hw2
        have HC : Hid (#[Value.int .u8 (nn : Int)] = ([Cell.byteOf nn].map B8).toArray) := by
          show _ = _
          rw [byte_of nn (nn : Int) (by omega)]
          rfl
        have HLit := hide (own_lit w2 5 [Cell.byteOf nn] 1 rfl (by unfold maxLen; omega))
        rw [← HC.out] at HLit
        go_wp2_with fail
        go_loopg [4, 44] nn (fun gg v i wr => ∃ k m : Nat, k ≤ nn ∧ gg = nn - k ∧ i = .int .i64 (k : Nat) ∧ m = 1 + (Wire.txts (ns.take k)).length ∧ m ≤ 1 + 25 * k ∧ Hid ((ns.take k).any (fun s => decide (24 < s.size)) = false) ∧ wr.ownsRow w2.heap.size 5 1 v m ((Cell.byteOf nn :: Wire.txts (ns.take k)).map B8) ∧ Below w2.heap.size w2 wr)
        case atStart => exact ⟨0, 1, Nat.zero_le _, rfl, rfl, rfl, by omega, rfl, HLit.out, (Below.refl _ _).alloc (Nat.le_refl _) _⟩
        case round =>
          obtain ⟨k, m, hk, rfl, rfl, hm, hml, HAny, hown, hbel⟩ := hrel
          obtain ⟨w3, hw3⟩ : ∃ w3, w3 = wr := ⟨_, rfl⟩
          subst hw3
          have HM := hide hm
          have HO := hide hown
          have HB2 := hide hbel
          have hsz2 := hbel.size
          clear hm hown hbel
          have HBw := hide (HB.out.trans (HB2.out.mono (Nat.le_of_lt hs1)))
          have HK2 := hide (HK.out.below HB2.out hs1)
          have k0' := HK2.out.cell 0
          have k1' := HK2.out.cell 1
          have k2' := HK2.out.cell 2
          simp at k0' k1' k2'
          clear k0 k1 k2
          by_cases hlt : k < nn
          · obtain ⟨b, off, s, rfl, hb, hat, hsm, hc⟩ := (HN.out.below HBw.out (Nat.le_refl _)).el hlt
            unfold maxLen at hsm
            have HAt := hide hat
            clear hat
            by_cases h24 : 24 < s.size
            · have t2 : decide ((24 : Int) < (s.size : Int)) = true := by simp; omega
              have HP : Hid (Wire.answer ⟨ns, rs, (cN : Int)⟩ = (3, [])) := by
                show _ = _
                unfold Wire.answer
                rw [if_neg (by rw [HBad.out]; simp), if_pos (by unfold Wire.longN; rw [any_stop HAt.out h24]; simp)]
              go_wp2_with fail
              go_ret2
              exact AE.err 3 HP.out HBw.out
            · have t2 : decide ((24 : Int) < (s.size : Int)) = false := by simp; omega
              have HA2 := hide (any_take HAt.out HAny.out h24)
              have HT := hide (txts_take HAt.out)
              have HC1 : Hid (#[Value.int .u8 (s.size : Int)] = ([Cell.byteOf s.size].map B8).toArray) := by
                show _ = _
                rw [byte_of s.size (s.size : Int) (by omega)]
                rfl
              have hSl := str_len s
              have HSl := hide hSl
              clear hSl
              go_wp2_with (first | (at_builtin; refine wpList_appL bt rfl (.tmp 51) (.tmp 55) rfl w2.heap.size _ m (Cell.byteOf nn :: Wire.txts (ns.take k)) rfl HO.out _ 1 1 [Cell.byteOf s.size] rfl rfl rfl HC1.out (by omega) (by omega) ?_; intro v4 w4 hown4 hb4 hg4; have HO4 := hide hown4; have HB4 := hide (HB2.out.trans hb4); have hs4 := HB4.out.size; clear hown4 hb4 hg4) | (at_builtin; refine wpList_appS _ bt Try.underlying9 rfl (.tmp 57) (.tmp 58) rfl w2.heap.size _ (m + 1) ((Cell.byteOf nn :: Wire.txts (ns.take k)) ++ [Cell.byteOf s.size]) rfl HO4.out s rfl (by omega) (by omega) ?_; intro v5 w5 hown5 hb5 hg5; have HO5 := hide hown5; have HB5 := hide (HB4.out.trans hb5); clear hown5 hb5 hg5))
              go_roundg (nn - (k + 1))
              case measure => omega
              case rel => exact ⟨k + 1, m + 1 + s.size, by omega, rfl, by go_num, by rw [HT.out, List.length_append, List.length_cons, HSl.out, HM.out]; omega, by omega, HA2.out, by rw [HT.out]; have := HO5.out; rw [List.append_assoc] at this; exact this, HB5.out⟩
          · obtain rfl : k = nn := by omega
            have hany := HAny.out
            rw [List.take_of_length_le (by rw [HNL.out]; exact Nat.le_refl _)] at hany HM HO
            have hln : Wire.longN ns = false := by unfold Wire.longN; rw [hany, HNL.out]; simp; omega
            have HLN := hide hln
            have HBody : Hid (Cell.byteOf k :: Wire.txts ns = Wire.body ns) := by show _ = _; unfold Wire.body; rw [HNL.out]
            have HML : Hid (m = (Wire.body ns).length) := by show _ = _; rw [← HBody.out, List.length_cons, HM.out]; omega
            rw [HBody.out] at HO
            clear hany hln HAny HM
            obtain ⟨Av, cv, rfl⟩ := own_sl HO.out
            go_upto_if 64 with fail
            go_cut [7] (fun o wx => FrOwn wx w2.heap.size wx.heap.size o (Wire.headF ns) ∧ Below w2.heap.size w2 wx)
            case first =>
              by_cases h0 : k = 0
              · subst h0
                have hns : ns = [] := List.eq_nil_of_length_eq_zero HNL.out
                subst hns
                go_wp2_with fail
                go_meet
                exact ⟨FrOwn.nil _ _ _, HB2.out⟩
              · have h0p : 0 < k := by omega
                have h0i : (0 : Int) < (k : Int) := by omega
                have HH : Hid (Wire.headF ns = [] ++ [(6, Wire.body ns)]) := by
                  show _ = _
                  unfold Wire.headF
                  rw [if_neg (by
                    have := HNL.out
                    cases ns with
                    | nil => simp at this; omega
                    | cons s t => simp)]
                  rfl
                go_wp2_with (at_builtin; refine wpList_appF rfl (.tmp 65) (.tmp 68) rfl w2.heap.size (.slice none 0 0) [] rfl (by exact FrOwn.nil _ _ _) 1 (6, Wire.body ns) Av m cv HML.out HO.out rfl rfl (by simp) hsz2 ?_; intro v4 w4 hfr4 hb4; have HF4 := hide hfr4; have HB4 := hide (HB2.out.trans hb4); clear hfr4 hb4)
                go_meet
                rw [HH.out]
                exact ⟨HF4.out, HB4.out⟩
            case rest =>
              obtain ⟨hfr, hbx⟩ := hcut
              obtain ⟨w4, hw4⟩ : ∃ w4, w4 = wc := ⟨_, rfl⟩
              subst hw4
              have HF := hide hfr
              have hsz4 := hbx.size
              have HB4 := hide hbx
              have HBw4 := hide (HB.out.trans (hbx.mono (Nat.le_of_lt hs1)))
              have HK4 := hide (HK.out.below hbx hs1)
              have j0 := HK4.out.cell 0
              have j1 := HK4.out.cell 1
              have j2 := HK4.out.cell 2
              simp at j0 j1 j2
              clear hfr hbx k0' k1' k2' HO HB2 HBw HK2 HML HBody hml
              have hhd : (Wire.headF ns).length ≤ 1 := by unfold Wire.headF; split <;> simp
              obtain ⟨Ah, ch, rfl⟩ := HF.out.form
              go_wp2_with fail
              go_loopg [7, 73] nr (fun gg v i wr => ∃ q : Nat, q ≤ nr ∧ gg = nr - q ∧ i = .int .i64 (q : Nat) ∧ Hid ((Wire.rowsF k (rs.take q)).1 = 0) ∧ FrOwn wr w2.heap.size wr.heap.size v (Wire.headF ns ++ (Wire.rowsF k (rs.take q)).2) ∧ Below w2.heap.size w2 wr)
              case atStart => exact ⟨0, Nat.zero_le _, rfl, rfl, rfl, by simp only [List.take_zero, Wire.rowsF, List.append_nil]; exact HF.out, HB4.out⟩
              case round =>
                obtain ⟨q, hq, rfl, rfl, HR0, hfr, hbel⟩ := hrel
                obtain ⟨w5, hw5⟩ : ∃ w5, w5 = wr := ⟨_, rfl⟩
                subst hw5
                have HF5 := hide hfr
                have HB5 := hide hbel
                have hsz5 := hbel.size
                have HBw5 := hide (HB.out.trans (hbel.mono (Nat.le_of_lt hs1)))
                have HK5 := hide (HK.out.below hbel hs1)
                have i0 := HK5.out.cell 0
                have i1 := HK5.out.cell 1
                have i2 := HK5.out.cell 2
                simp at i0 i1 i2
                clear hfr hbel j0 j1 j2
                by_cases hlt : q < nr
                · obtain ⟨b, off, r, Aq, cq, rfl, hb, hat, hc, hrv, hrm⟩ := (HR.out.below HBw5.out (Nat.le_refl _)).at hlt
                  have HAt := hide hat
                  have HRV := hide hrv
                  clear hat hrv
                  by_cases hlen : r.length = k
                  · have t2 : ((r.length : Int) != (k : Int)) = false := by simp; omega
                    have HLen := hide hlen
                    clear hlen
                    go_wp2_with fail
                    with_reducible refine (row_any Aq r.length cq r _ (by exact HRV.out.more (by omega)) hrm).mono ?_
                    intro e w6 hpost
                    by_cases hz : (Cell.row r).1 = 0
                    · obtain ⟨A6, c6, rfl, hown6, hb6, _, _⟩ := hpost.ok0 (Wire.row_two hz)
                      have HO6 := hide hown6
                      have HF6 := hide ((HF5.out.below hb6 (Nat.le_refl _)).more hb6.size)
                      have HB6 := hide (HB5.out.trans (hb6.mono hsz5))
                      have hs6 := hb6.size
                      obtain ⟨hnx1, hnx2⟩ := rowsF_next k rs q r HAt.out HR0.out HLen.out hz
                      have HN1 := hide hnx1
                      have HN2 := hide hnx2
                      have hfl : (Wire.headF ns ++ (Wire.rowsF k (rs.take q)).2).length ≤ 1 + q := by
                        have := Wire.rowsF_len k (rs.take q)
                        have h2 := List.length_take_le q rs
                        simp only [List.length_append]
                        omega
                      clear hpost hown6 hb6 hz hnx1 hnx2
                      go_wp2_with (at_builtin; refine wpList_appF rfl (.tmp 91) (.tmp 94) rfl w2.heap.size _ (Wire.headF ns ++ (Wire.rowsF k (rs.take q)).2) rfl HF6.out 1 (6, (Cell.row r).2) A6 _ c6 rfl (own_base HO6.out hsz5) rfl rfl (by omega) (by omega) ?_; intro v7 w7 hfr7 hb7; have HF7 := hide hfr7; have HB7 := hide (HB6.out.trans hb7); clear hfr7 hb7)
                      go_roundg (nr - (q + 1))
                      case measure => omega
                      case rel => exact ⟨q + 1, by omega, rfl, by go_num, HN1.out, by rw [HN2.out, ← List.append_assoc]; exact HF7.out, HB7.out⟩
                    · have HP : Hid (Wire.answer ⟨ns, rs, (cN : Int)⟩ = ((Cell.row r).1, [])) := by
                        show _ = _
                        have := rowsF_stop ns.length rs q r (Cell.row r).1 HAt.out (by rw [HNL.out]; exact HR0.out) hz (fun h => absurd (by rw [HLen.out, HNL.out]) h) (fun _ => rfl)
                        unfold Wire.answer
                        rw [if_neg (by rw [HBad.out]; simp), if_neg (by rw [HLN.out]; simp)]
                        simp only [this]
                        rw [if_pos hz]
                      obtain ⟨A6, c6, rfl, _, hb6, _, _⟩ := hpost.is (n := (Cell.row r).1) (l := (Cell.row r).2) rfl
                      have HB6 := hide (HBw5.out.trans (hb6.mono (by omega)))
                      obtain ⟨en, hen⟩ : ∃ en, en = (Cell.row r).1 := ⟨_, rfl⟩
                      rw [← hen] at HP ⊢
                      have t3 : ((en : Int) != 0) = true := by simp; omega
                      clear hpost hb6 hz hen
                      go_wp2_with fail
                      go_ret2
                      exact AE.err en HP.out HB6.out
                  · have t2 : ((r.length : Int) != (k : Int)) = true := by simp; omega
                    have HP : Hid (Wire.answer ⟨ns, rs, (cN : Int)⟩ = (330, [])) := by
                      show _ = _
                      have := rowsF_stop ns.length rs q r 330 HAt.out (by rw [HNL.out]; exact HR0.out) (by omega) (fun _ => rfl) (fun h => absurd (h.trans HNL.out) hlen)
                      unfold Wire.answer
                      rw [if_neg (by rw [HBad.out]; simp), if_neg (by rw [HLN.out]; simp)]
                      simp only [this]
                      rfl
                    clear hlen
                    go_wp2_with fail
                    go_ret2
                    exact AE.err 330 HP.out HBw5.out
                · obtain rfl : q = nr := by omega
                  rw [List.take_of_length_le (by rw [HRL.out]; exact Nat.le_refl _)] at HR0 HF5
                  have hfl : (Wire.headF ns ++ (Wire.rowsF k rs).2).length ≤ 1 + q := by
                    have := Wire.rowsF_len k rs
                    have h2 := HRL.out
                    simp only [List.length_append]
                    omega
                  have HFl := hide hfl
                  clear hfl
                  have HP : Hid (Wire.answer ⟨ns, rs, (cN : Int)⟩ = (0, Wire.headF ns ++ (Wire.rowsF k rs).2 ++ [(7, Wire.fourB cN)])) := by
                    refine Wire.answer_ok.2 ⟨HBad.out, HLN.out, ?_, ?_⟩
                    · simp only [HNL.out]; exact HR0.out
                    · simp only [HNL.out]; rfl
                  obtain ⟨FS, hFS⟩ : ∃ FS, FS = Wire.headF ns ++ (Wire.rowsF k rs).2 := ⟨_, rfl⟩
                  rw [← hFS] at HP HFl HF5
                  clear hFS
                  obtain ⟨Ah2, ch2, rfl⟩ := HF5.out.form
                  go_wp2_with fail
                  with_reducible refine (wireNumber_any cN (by omega) _).mono ?_
                  rintro e w6 ⟨rfl, hw6⟩
                  have HO6 : Hid (w6.ownsRow w5.heap.size 5 1 (.slice (some ⟨w5.heap.size, 0, none⟩) 4 4) 4 ((Wire.fourB cN).map B8)) := by rw [hw6]; exact own_lit w5 5 (Wire.fourB cN) 4 rfl (by unfold maxLen; omega)
                  have hb6 : Below w5.heap.size w5 w6 := by rw [hw6]; exact (Below.refl _ _).alloc (Nat.le_refl _) _
                  have HF6 := hide ((HF5.out.below hb6 (Nat.le_refl _)).more hb6.size)
                  have HB6 := hide (HB5.out.trans (hb6.mono hsz5))
                  have hs6 := hb6.size
                  clear hw6 hb6
                  go_wp2_with (at_builtin; refine wpList_appF rfl (.tmp 97) (.tmp 102) rfl w2.heap.size _ FS rfl HF6.out 1 (7, Wire.fourB cN) (some ⟨w5.heap.size, 0, none⟩) 4 4 rfl (own_base HO6.out hsz5) rfl rfl (by have := HFl.out; omega) (by omega) ?_; intro v7 w7 hfr7 hb7; have HF7 := hide hfr7; have HB7 := hide (HB6.out.trans hb7); clear hfr7 hb7)
                  obtain ⟨A7, c7, rfl⟩ := HF7.out.form
                  go_ret2
                  exact AE.ok HP.out (HF7.out.low (Nat.le_of_lt hs1)) (HB.out.trans (HB7.out.mono (Nat.le_of_lt hs1)))
end Go.Proofs.Ytnieenlnpnaamaa
