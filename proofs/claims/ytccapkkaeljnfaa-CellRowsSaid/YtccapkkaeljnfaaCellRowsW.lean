/-
  The walk of chancerylaw18.CellRows: it returns true. Conditions: the arguments read as lists; sizes within the reach.
-/
import Derived.Test.YtccapkkaeljnfaaNext
import Derived.Test.YtccapkkaeljnfaaRefRead
import Derived.Test.YtccapkkaeljnfaaAwake18
namespace Go.Proofs.Ytccapkkaeljnfaa
open Go.RowKit

def Fill (w : World) (i : Value) (wr : World) (n : Nat) (k : Nat) : Prop := k ≤ n ∧ i = .int .i64 (k : Nat) ∧ Below w.heap.size w wr

set_option maxRecDepth 20000 in
set_option maxHeartbeats 8000000 in
theorem cellRows_any (A : Option Addr) (n c : Nat) (r : List Cell.Val) (A' : Option Addr) (n' c' : Nat) (l : List UInt8) (w : World) (hv : Rv w w.heap.size A n r) (hnc : n ≤ c) (_hcm : c ≤ maxLen) (hz : c * 32 ≤ 140737488351232) (hl : Rb w w.heap.size A' n' l) (hnc' : n' ≤ c') (_hcm' : c' ≤ maxLen) (hz' : c' ≤ 140737488351232) :
    Calls Try.prog 3 #[.slice A n c, .slice A' n' c'] w fun e w' => e = .returned (.bool true) ∧ Below w.heap.size w w' := by
  have HV := hide hv
  have HL := hide hl
  have HN : Hid (n * 32 ≤ 140737488355328) := by show _ ≤ _; omega
  have HN2 : Hid (n ≤ 9223372036854775807) := by show _ ≤ _; omega
  have HM : Hid (n' + 2 ≤ 140737488355328) := by show _ ≤ _; omega
  have HM2 : Hid (c' ≤ 140737488355328) := by show _ ≤ _; omega
  have HC := hide hnc'
  have HLn := hide hl.len
  have HBn := hide hv.2
  clear hv hl hnc _hcm hz hnc' _hcm' hz'
  obtain ⟨p1, bs, hp⟩ : ∃ p1 bs, Cell.row r = (p1, bs) := ⟨_, _, rfl⟩
  obtain ⟨vs, hvs⟩ : ∃ vs, vs = (Cell.read l).getD [] := ⟨_, rfl⟩
  obtain ⟨en, hen⟩ : ∃ en : Int, en = (if (Cell.read l).isSome then 0 else 280) := ⟨_, rfl⟩
  have HQ := hide hp
  have HVs := hide hvs
  have HEn := hide hen
  have HRf := hide (Cell.read_ref l)
  have hbl : bs.length ≤ 480 := by have := Cell.row_len r; rw [hp] at this; exact this
  clear hp hvs hen
  go_enter Try.func3, Try.ntmps3
  go_wp2_with fail
  obtain ⟨w0, hw0⟩ : ∃ x, x = w := ⟨_, rfl⟩
  have HB0 : Hid (Below w.heap.size w w0) := by rw [hw0]; exact Below.refl _ _
  have hz0 : w.heap.size ≤ w0.heap.size := by rw [hw0]; exact Nat.le_refl _
  rw [← hw0] at HV HL ⊢
  clear hw0
  with_reducible refine (copyRow_any A n c r w0 HV.out HN.out).mono ?_
  rintro e w1 ⟨v1, rfl, ho1, hb1⟩
  obtain ⟨A1, c1, rfl⟩ := own_sl ho1
  have HR1 := hide (Rv.own ho1 HBn.out)
  clear ho1
  replace HV := hide (HV.out.below hb1 (by omega))
  replace HL := hide (HL.out.below hb1 (by omega))
  have HB1 := hide (HB0.out.trans (hb1.mono (by omega)))
  have hz1 := hb1.size
  clear hb1 HB0
  go_wp2_with fail
  with_reducible refine (lentBytes_any A' n' c' l w1 (HL.out.more (by omega)) HM.out).mono ?_
  rintro e w2 ⟨gb, cb, rfl, ho2, hb2⟩
  obtain ⟨hcb1, hcb2⟩ : n' + 2 ≤ cb ∧ cb ≤ 9223372036854775807 := by
    obtain ⟨gx, cx, hvx, -, -, h1, h2⟩ := own_pos ho2 (by omega)
    injection hvx with _ _ hcx
    subst hcx
    exact ⟨h1, h2⟩
  have HR2 : Hid (Rb w2 w2.heap.size (some ⟨gb, 0, none⟩) n' l) := by
    have := Rb.own (own_take ho2 (show n' ≤ n' + 2 by omega))
    rwa [List.take_left' HLn.out] at this
  have HK2 := hide (show Own _ _ _ _ _ _ _ from ho2)
  clear ho2
  replace HV := hide (HV.out.below hb2 (by omega))
  replace HL := hide (HL.out.below hb2 (by omega))
  replace HR1 := hide (HR1.out.below hb2 (by omega))
  have HB2 := hide (HB1.out.trans (hb2.mono (by omega)))
  have hz2 := hb2.size
  clear hb2 HB1
  go_wp2_with fail
  with_reducible refine (row_any A1 n c1 r w2 (HR1.out.more (by omega)) HN2.out).mono ?_
  rintro e w3 hpost
  obtain ⟨A3, c3, rfl, ho3, hb3, hcl3, hcm3⟩ := hpost.is HQ.out
  clear hpost
  have HX := hide (show Own _ _ _ _ _ _ _ from own_base ho3 (show w.heap.size ≤ _ by omega))
  clear ho3
  replace HV := hide (HV.out.below hb3 (by omega))
  replace HL := hide (HL.out.below hb3 (by omega))
  replace HR1 := hide (HR1.out.below hb3 (by omega))
  replace HR2 := hide (HR2.out.below hb3 (by omega))
  replace HK2 := hide (HK2.out.below hb3 (by omega))
  have HB3 := hide (HB2.out.trans (hb3.mono (by omega)))
  have hz3 := hb3.size
  clear hb3 HB2
  go_wp2_with fail
  with_reducible refine (read_any (some ⟨gb, 0, none⟩) n' cb l w3 (HR2.out.more (by omega)) (by omega) (by omega)).mono ?_
  rintro e w4 hpost
  obtain ⟨A4, c4, rfl, ho4, hb4, hr4⟩ := hpost.any HVs.out HEn.out
  clear hpost
  have HBv4 := hide hr4
  have HLt4 := hide (fun g (hg : (Value.slice A4 vs.length c4).ownBlock = some g) => ho4.lt g hg)
  have HY := hide (show Own _ _ _ _ _ _ _ from ho4)
  clear ho4 hr4
  replace HV := hide (HV.out.below hb4 (by omega))
  replace HL := hide (HL.out.below hb4 (by omega))
  replace HR1 := hide (HR1.out.below hb4 (by omega))
  replace HR2 := hide (HR2.out.below hb4 (by omega))
  replace HK2 := hide (HK2.out.below hb4 (by omega))
  replace HX := hide (HX.out.below hb4 (by omega))
  have HB4 := hide (HB3.out.trans (hb4.mono (by omega)))
  have hz4 := hb4.size
  clear hb4 HB3
  go_wp2_with fail
  with_reducible refine (read_any (some ⟨gb, 0, none⟩) n' cb l w4 (HR2.out.more (by omega)) (by omega) (by omega)).mono ?_
  rintro e w5 hpost
  obtain ⟨A5, c5, rfl, ho5, hb5, hr5⟩ := hpost.any HVs.out HEn.out
  clear hpost
  have HBv5 := hide hr5
  have HLt5 := hide (fun g (hg : (Value.slice A5 vs.length c5).ownBlock = some g) => ho5.lt g hg)
  have HAg := hide (show Own _ _ _ _ _ _ _ from ho5)
  clear ho5 hr5
  replace HV := hide (HV.out.below hb5 (by omega))
  replace HL := hide (HL.out.below hb5 (by omega))
  replace HR1 := hide (HR1.out.below hb5 (by omega))
  replace HR2 := hide (HR2.out.below hb5 (by omega))
  replace HK2 := hide (HK2.out.below hb5 (by omega))
  replace HX := hide (HX.out.below hb5 (by omega))
  replace HY := hide (HY.out.below hb5 (by omega))
  have HB5 := hide (HB4.out.trans (hb5.mono (by omega)))
  have hz5 := hb5.size
  clear hb5 HB4
  go_wp2_with fail
  with_reducible refine (refRow_any A n c r w5 (HV.out.more (by omega)) HN2.out).mono ?_
  rintro e w6 hpost
  obtain ⟨A6, c6, rfl, ho6, hb6, hcl6, hcm6⟩ := hpost.is HQ.out
  clear hpost
  have HP := hide (Rb.own ho6)
  clear ho6
  replace HV := hide (HV.out.below hb6 (by omega))
  replace HL := hide (HL.out.below hb6 (by omega))
  replace HR1 := hide (HR1.out.below hb6 (by omega))
  replace HR2 := hide (HR2.out.below hb6 (by omega))
  replace HK2 := hide (HK2.out.below hb6 (by omega))
  replace HX := hide (HX.out.below hb6 (by omega))
  replace HY := hide (HY.out.below hb6 (by omega))
  replace HAg := hide (HAg.out.below hb6 (by omega))
  have HB6 := hide (HB5.out.trans (hb6.mono (by omega)))
  have hz6 := hb6.size
  clear hb6 HB5
  go_wp2_with fail
  with_reducible refine (refRead_any A' n' c' l w6 (HL.out.more (by omega)) HC.out HM2.out).mono ?_
  rintro e w7 hpost
  rw [← HRf.out] at hpost
  obtain ⟨A7, c7, rfl, ho7, hb7, hr7⟩ := hpost.any HVs.out HEn.out
  clear hpost hr7
  have HLt7 := hide (fun g (hg : (Value.slice A7 vs.length c7).ownBlock = some g) => ho7.lt g hg)
  obtain ⟨_, cc7, _, _, hl7, hm7⟩ := own_form ho7
  have HQ7 := hide (show Own _ _ _ _ _ _ _ from ho7)
  clear ho7
  replace HV := hide (HV.out.below hb7 (by omega))
  replace HL := hide (HL.out.below hb7 (by omega))
  replace HR1 := hide (HR1.out.below hb7 (by omega))
  replace HR2 := hide (HR2.out.below hb7 (by omega))
  replace HK2 := hide (HK2.out.below hb7 (by omega))
  replace HX := hide (HX.out.below hb7 (by omega))
  replace HY := hide (HY.out.below hb7 (by omega))
  replace HAg := hide (HAg.out.below hb7 (by omega))
  replace HP := hide (HP.out.below hb7 (by omega))
  have HB7 := hide (HB6.out.trans (hb7.mono (by omega)))
  have hz7 := hb7.size
  clear hb7 HB6
  have t1 : ((p1 : Int) != (p1 : Int)) = false := by simp
  have t2 : (en != en) = false := by simp
  have HVl : Hid (vs.length ≤ 9223372036854775807) := by unfold maxLen at hm7; show _ ≤ _; omega
  have HBl : Hid (bs.length ≤ maxLen) := by unfold maxLen; show _ ≤ _; omega
  go_wp2_with fail
  with_reducible refine (sameBytes_any A3 A6 bs.length c3 bs.length c6 bs bs w7 _ _ (Rb.own HX.out.row) HP.out HBl.out).mono ?_
  rintro e w' ⟨rfl, q8, rfl⟩
  rw [show (bs == bs) = true from beq_self_eq_true _]
  obtain ⟨w8, hw8⟩ : ∃ x, x = w7.drewN q8 := ⟨_, rfl⟩
  rw [← hw8]
  replace HV := hide (HV.out.drewE hw8)
  replace HL := hide (HL.out.drewE hw8)
  replace HR1 := hide (HR1.out.drewE hw8)
  replace HR2 := hide (HR2.out.drewE hw8)
  replace HK2 := hide (HK2.out.drewE hw8)
  replace HX := hide (HX.out.drewE hw8)
  replace HY := hide (HY.out.drewE hw8)
  replace HAg := hide (HAg.out.drewE hw8)
  replace HP := hide (HP.out.drewE hw8)
  replace HQ7 := hide (HQ7.out.drewE hw8)
  have HB8 := hide (Below.drewE HB7.out hw8)
  have hz8 : w7.heap.size ≤ w8.heap.size := by rw [hw8]; exact Nat.le_refl _
  clear hw8 HB7
  clear HP
  go_wp2_with fail
  with_reducible refine (sameRow_any A4 A7 vs.length c4 vs.length c7 vs vs w8 _ _ (Rv.own HY.out.row HBv4.out) (Rv.own HQ7.out.row HBv4.out) HVl.out).mono ?_
  rintro e w' ⟨b3, rfl, hb3, q9, rfl⟩
  obtain rfl : b3 = true := hb3.2 rfl
  clear hb3
  obtain ⟨w9, hw9⟩ : ∃ x, x = w8.drewN q9 := ⟨_, rfl⟩
  rw [← hw9]
  replace HV := hide (HV.out.drewE hw9)
  replace HL := hide (HL.out.drewE hw9)
  replace HR1 := hide (HR1.out.drewE hw9)
  replace HR2 := hide (HR2.out.drewE hw9)
  replace HK2 := hide (HK2.out.drewE hw9)
  replace HX := hide (HX.out.drewE hw9)
  replace HY := hide (HY.out.drewE hw9)
  replace HAg := hide (HAg.out.drewE hw9)
  replace HQ7 := hide (HQ7.out.drewE hw9)
  have HB9 := hide (Below.drewE HB8.out hw9)
  have hz9 : w8.heap.size ≤ w9.heap.size := by rw [hw9]; exact Nat.le_refl _
  clear hw9 HB8
  go_wp2_with fail
  with_reducible refine (sameRow_any A1 A n c1 n c r r w9 _ _ HR1.out HV.out HN2.out).mono ?_
  rintro e w' ⟨b4, rfl, hb4, q10, rfl⟩
  obtain rfl : b4 = true := hb4.2 rfl
  clear hb4
  obtain ⟨w10, hw10⟩ : ∃ x, x = w9.drewN q10 := ⟨_, rfl⟩
  rw [← hw10]
  replace HV := hide (HV.out.drewE hw10)
  replace HL := hide (HL.out.drewE hw10)
  replace HR1 := hide (HR1.out.drewE hw10)
  replace HR2 := hide (HR2.out.drewE hw10)
  replace HK2 := hide (HK2.out.drewE hw10)
  replace HX := hide (HX.out.drewE hw10)
  replace HY := hide (HY.out.drewE hw10)
  replace HAg := hide (HAg.out.drewE hw10)
  replace HQ7 := hide (HQ7.out.drewE hw10)
  have HB10 := hide (Below.drewE HB9.out hw10)
  have hz10 : w9.heap.size ≤ w10.heap.size := by rw [hw10]; exact Nat.le_refl _
  clear hw10 HB9
  clear HR1 HV
  go_wp2_with fail
  with_reducible refine (keptBytes_any gb cb _ A' n' n' c' l w10 _ HK2.out.row HL.out HM.out).mono ?_
  rintro e w' ⟨rfl, q11, rfl⟩
  obtain ⟨w11, hw11⟩ : ∃ x, x = w10.drewN q11 := ⟨_, rfl⟩
  rw [← hw11]
  replace HL := hide (HL.out.drewE hw11)
  replace HR2 := hide (HR2.out.drewE hw11)
  replace HK2 := hide (HK2.out.drewE hw11)
  replace HX := hide (HX.out.drewE hw11)
  replace HY := hide (HY.out.drewE hw11)
  replace HAg := hide (HAg.out.drewE hw11)
  replace HQ7 := hide (HQ7.out.drewE hw11)
  have HB11 := hide (Below.drewE HB10.out hw11)
  have hz11 : w10.heap.size ≤ w11.heap.size := by rw [hw11]; exact Nat.le_refl _
  clear hw11 HB10
  clear HK2 HL HR2
  go_wp2_with fail
  go_loopw [17] (fun i wr => ∃ (k : Nat) (xs : List Value), k ≤ bs.length ∧ i = .int .i64 (k : Nat) ∧ Own wr w.heap.size 5 1 (.slice A3 bs.length c3) bs.length xs ∧ Own wr w3.heap.size 36 3 (.slice A4 vs.length c4) vs.length (vcells vs) ∧ Own wr w4.heap.size 36 3 (.slice A5 vs.length c5) vs.length (vcells vs) ∧ Own wr w6.heap.size 36 3 (.slice A7 vs.length c7) vs.length (vcells vs) ∧ Below w.heap.size w wr) (fun i _ => bs.length - (intOf i).toNat)
  case atStart => exact ⟨0, _, Nat.zero_le _, rfl, HX.out, HY.out, HAg.out, HQ7.out, HB11.out⟩
  case round =>
    obtain ⟨k, xs, hk, rfl, hx, hy, ha, hq, hb⟩ := hrel
    clear HX HY HAg HQ7 HB11
    have HX := hide hx
    have HY := hide hy
    have HAg := hide ha
    have HQ7 := hide hq
    have HB := hide hb
    clear hx hy ha hq hb
    by_cases hlt : k < bs.length
    · obtain ⟨gx, cx, hvx, hgb, hgl, -, -⟩ := own_pos HX.out (by omega)
      injection hvx with e1 _ e3
      subst e1 e3
      have hu : k < xs.length := by have := HX.out.1; omega
      have hc0 : wr.cell? ⟨gx, k, none⟩ = some xs[k] := by
        rw [World.ownsRow.cellAt HX.out k (by omega)]
        exact List.getElem?_eq_getElem hu
      have hf0 := World.ownsRow.frozenAt HX.out k
      have hkI : (k : Int) < (bs.length : Int) := by omega
      have HS := hide (World.ownsRow.stored HX.out k (.int .u8 9)).1
      have HY2 := hide (ownsRow_setCell_other (a := ⟨gx, k, none⟩) HY.out (own_own_ne HY.out HX.out rfl (by decide)) (.int .u8 9))
      have HA2 := hide (ownsRow_setCell_other (a := ⟨gx, k, none⟩) HAg.out (own_own_ne HAg.out HX.out rfl (by decide)) (.int .u8 9))
      have HQ2 := hide (ownsRow_setCell_other (a := ⟨gx, k, none⟩) HQ7.out (own_own_ne HQ7.out HX.out rfl (by decide)) (.int .u8 9))
      have HB2 : Hid (Below w.heap.size w (wr.setCell ⟨gx, k, none⟩ (.int .u8 9))) := HB.out.setCell hgb _
      go_wp2_with fail
      go_roundw
      case rel => exact ⟨k + 1, _, by omega, by go_num, HS.out, HY2.out, HA2.out, HQ2.out, HB2.out⟩
      case measure => simp [intOf]; omega
    · obtain rfl : k = bs.length := by omega
      clear HX
      go_wp2_with fail
      go_loopw [18] (fun i wr => ∃ (k : Nat) (xs : List Value), k ≤ vs.length ∧ i = .int .i64 (k : Nat) ∧ Own wr w3.heap.size 36 3 (.slice A4 vs.length c4) vs.length xs ∧ Own wr w4.heap.size 36 3 (.slice A5 vs.length c5) vs.length (vcells vs) ∧ Own wr w6.heap.size 36 3 (.slice A7 vs.length c7) vs.length (vcells vs) ∧ Below w.heap.size w wr) (fun i _ => vs.length - (intOf i).toNat)
      case atStart => exact ⟨0, _, Nat.zero_le _, rfl, HY.out, HAg.out, HQ7.out, HB.out⟩
      case round =>
        obtain ⟨k, xs, hk, rfl, hy, ha, hq, hb⟩ := hrel
        clear HY HAg HQ7 HB
        have HY := hide hy
        have HAg := hide ha
        have HQ7 := hide hq
        have HB := hide hb
        clear hy ha hq hb
        by_cases hlt : k < vs.length
        · obtain ⟨gx, cx, hvx, hgb, hgl, -, -⟩ := own_pos HY.out (by omega)
          injection hvx with e1 _ e3
          subst e1 e3
          have hxl : xs.length = vs.length * 3 := HY.out.1
          have hg4 : gx < w4.heap.size := (HLt4.out gx rfl).2
          have hu0 : k * 3 < xs.length := by omega
          have hu1 : k * 3 + 1 < xs.length := by omega
          have hu2 : k * 3 + 2 < xs.length := by omega
          have hc0 : wr.cell? ⟨gx, k * 3, none⟩ = some xs[k * 3] := by
            rw [World.ownsRow.cellAt HY.out _ (by omega)]
            exact List.getElem?_eq_getElem hu0
          have hc1 : wr.cell? ⟨gx, k * 3 + 1, none⟩ = some xs[k * 3 + 1] := by
            rw [World.ownsRow.cellAt HY.out _ (by omega)]
            exact List.getElem?_eq_getElem hu1
          have hc2 : wr.cell? ⟨gx, k * 3 + 2, none⟩ = some xs[k * 3 + 2] := by
            rw [World.ownsRow.cellAt HY.out _ (by omega)]
            exact List.getElem?_eq_getElem hu2
          have hf0 := World.ownsRow.frozenAt HY.out (k * 3)
          have hf1 := World.ownsRow.frozenAt HY.out (k * 3 + 1)
          have hf2 := World.ownsRow.frozenAt HY.out (k * 3 + 2)
          have hkI : (k : Int) < (vs.length : Int) := by omega
          have HKl := hide hlt
          have hvl := HVl.out
          clear hxl
          go_wp2_with fail
          go_roundw
          case rel =>
            refine ⟨k + 1, _, HKl.out, by go_num, ((World.ownsRow.stored (World.ownsRow.stored (World.ownsRow.stored HY.out (k * 3) _).1 (k * 3 + 1) _).1 (k * 3 + 2) _).1), ?_, ?_, ?_⟩
            · exact ownsRow_setCell_below (ownsRow_setCell_below (ownsRow_setCell_below HAg.out (by exact hg4) _) (by exact hg4) _) (by exact hg4) _
            · exact ownsRow_setCell_below (ownsRow_setCell_below (ownsRow_setCell_below HQ7.out (show gx < _ by omega) _) (show gx < _ by omega) _) (show gx < _ by omega) _
            · exact ((HB.out.setCell (show _ ≤ gx by omega) _).setCell (show _ ≤ gx by omega) _).setCell (show _ ≤ gx by omega) _
          case measure => have := HKl.out; simp [intOf]; omega
        · obtain rfl : k = vs.length := by omega
          have hzr := HB.out.size
          go_wp2_with fail
          refine (sameRow_any A5 A7 vs.length c5 vs.length c7 vs vs wr _ _ (Rv.own HAg.out.row HBv4.out) (Rv.own HQ7.out.row HBv4.out) HVl.out).mono ?_
          rintro e w' ⟨b5, rfl, hb5, q5, rfl⟩
          obtain rfl : b5 = true := hb5.2 rfl
          clear hb5
          go_wp2_with fail
          refine (awake_any _).mono ?_
          rintro e w20 ⟨rfl, hb20⟩
          have HBE := hide ((below_drewN HB.out q5).trans (hb20.mono hzr))
          clear hb20
          go_wp2_with fail
          go_ret
          exact ⟨rfl, HBE.out⟩
end Go.Proofs.Ytccapkkaeljnfaa
