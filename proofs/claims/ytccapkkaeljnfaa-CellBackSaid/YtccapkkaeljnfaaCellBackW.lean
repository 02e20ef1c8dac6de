/-
  The walk of chancerylaw18.CellBack: it returns true. Conditions: the arguments read as lists; sizes within the reach.
-/
import Derived.Test.YtccapkkaeljnfaaNext
import Derived.Test.YtccapkkaeljnfaaAwake18
namespace Go.Proofs.Ytccapkkaeljnfaa
open Go.RowKit

set_option maxRecDepth 20000 in
set_option maxHeartbeats 8000000 in
theorem cellBack_any (A : Option Addr) (n c : Nat) (r : List Cell.Val) (A' : Option Addr) (n' c' : Nat) (l : List UInt8) (w : World) (hv : Rv w w.heap.size A n r) (hnc : n ≤ c) (_hcm : c ≤ maxLen) (hz : c * 32 ≤ 140737488351232) (hl : Rb w w.heap.size A' n' l) (hnc' : n' ≤ c') (_hcm' : c' ≤ maxLen) (hz' : c' ≤ 140737488351232) :
    Calls Try.prog 4 #[.slice A n c, .slice A' n' c'] w fun e w' => e = .returned (.bool true) ∧ Below w.heap.size w w' := by
  have HV := hide hv
  have HL := hide hl
  have HN : Hid (n * 32 ≤ 140737488355328) := by show _ ≤ _; omega
  have HN2 : Hid (n ≤ 9223372036854775807) := by show _ ≤ _; omega
  have HM : Hid (n' ≤ 140737488355328) := by show _ ≤ _; omega
  have HLn := hide hl.len
  have HBn := hide hv.2
  clear hv hl hnc _hcm hz hnc' _hcm' hz'
  obtain ⟨p1, bs, hp⟩ : ∃ p1 bs, Cell.row r = (p1, bs) := ⟨_, _, rfl⟩
  have HQ := hide hp
  have hbl : bs.length ≤ 480 := by have := Cell.row_len r; rw [hp] at this; exact this
  clear hp
  go_enter Try.func4, Try.ntmps4
  go_wp2_with fail
  obtain ⟨w0, hw0⟩ : ∃ x, x = w := ⟨_, rfl⟩
  have HB0 : Hid (Below w.heap.size w w0) := by rw [hw0]; exact Below.refl _ _
  have hz0 : w.heap.size ≤ w0.heap.size := by rw [hw0]; exact Nat.le_refl _
  rw [← hw0] at HV HL ⊢
  clear hw0
  refine (copyRow_any A n c r w0 HV.out HN.out).mono ?_
  rintro e w1 ⟨v1, rfl, ho1, hb1⟩
  obtain ⟨A1, c1, rfl⟩ := own_sl ho1
  have HR1 := hide (Rv.own ho1 HBn.out)
  clear ho1
  replace HV := hide (HV.out.below hb1 (by omega))
  replace HL := hide (HL.out.below hb1 (by omega))
  have HB1 := hide (HB0.out.trans (hb1.mono (by omega)))
  have hz1 := hb1.size
  clear hb1 HB0
  go_wp2_with fail
  refine (row_any A1 n c1 r w1 HR1.out HN2.out).mono ?_
  rintro e w2 hpost
  obtain ⟨A2, c2, rfl, ho2, hb2, hcl2, hcm2⟩ := hpost.is HQ.out
  clear hpost
  have HR2 := hide (Rb.own ho2)
  clear ho2
  replace HV := hide (HV.out.below hb2 (by omega))
  replace HL := hide (HL.out.below hb2 (by omega))
  replace HR1 := hide (HR1.out.below hb2 (by omega))
  have HB2 := hide (HB1.out.trans (hb2.mono (by omega)))
  have hz2 := hb2.size
  clear hb2 HB1
  clear HR1
  by_cases h0 : p1 = 0
  · subst h0
    have HRD := hide (Cell.row_read HQ.out fun v hv => (HBn.out v hv).2)
    have t1 : decide ((480 : Int) < (bs.length : Int)) = false := by simp; omega
    have t2 : decide (480 < bs.length) = false := by simp; omega
    go_wp2_with fail
    refine (read_any A2 bs.length c2 bs w2 HR2.out hcl2 (by unfold maxLen at hcm2; omega)).mono ?_
    rintro e w3 hpost
    obtain ⟨A3, c3, rfl, ho3, hb3, hr3⟩ := hpost.some HRD.out
    clear hpost
    have HR3 := hide (Rv.own ho3 hr3)
    clear ho3 hr3
    have HLr : Hid (r.length ≤ 9223372036854775807) := by rw [HV.out.len]; exact HN2.out
    replace HV := hide (HV.out.below hb3 (by omega))
    replace HL := hide (HL.out.below hb3 (by omega))
    replace HR2 := hide (HR2.out.below hb3 (by omega))
    have HB3 := hide (HB2.out.trans (hb3.mono (by omega)))
    have hz3 := hb3.size
    clear hb3 HB2
    go_wp2_with fail
    refine (sameRow_any A3 A r.length c3 n c r r w3 _ _ HR3.out HV.out HLr.out).mono ?_
    rintro e w' ⟨b3, rfl, hb3, q4, rfl⟩
    obtain rfl : b3 = true := hb3.2 rfl
    clear hb3
    obtain ⟨w4, hw4⟩ : ∃ x, x = w3.drewN q4 := ⟨_, rfl⟩
    rw [← hw4]
    replace HV := hide (HV.out.drewE hw4)
    replace HL := hide (HL.out.drewE hw4)
    replace HR2 := hide (HR2.out.drewE hw4)
    replace HR3 := hide (HR3.out.drewE hw4)
    have HB4 := hide (Below.drewE HB3.out hw4)
    have hz4 : w3.heap.size ≤ w4.heap.size := by rw [hw4]; exact Nat.le_refl _
    clear hw4 HB3
    clear HR3
    go_wp2_with fail
    refine (copyBytes_any A' n' c' l w4 (HL.out.more (by omega)) HM.out).mono ?_
    rintro e w5 ⟨v5, rfl, ho5, hb5⟩
    obtain ⟨A4, c4, rfl, -, hcl4, hcm4⟩ := own_form ho5
    have HR4 := hide (Rb.own ho5)
    clear ho5
    replace HV := hide (HV.out.below hb5 (by omega))
    replace HL := hide (HL.out.below hb5 (by omega))
    replace HR2 := hide (HR2.out.below hb5 (by omega))
    have HB5 := hide (HB4.out.trans (hb5.mono (by omega)))
    have hz5 := hb5.size
    clear hb5 HB4
    rcases hrd : Cell.read l with _ | vs
    · have HRD := hide hrd
      clear hrd
      go_wp2_with fail
      refine (read_any A4 n' c4 l w5 HR4.out hcl4 (by unfold maxLen at hcm4; omega)).mono ?_
      rintro e w6 hpost
      obtain ⟨A5, c5, rfl, hb6⟩ := hpost.none HRD.out
      clear hpost
      replace HV := hide (HV.out.below hb6 (by omega))
      replace HL := hide (HL.out.below hb6 (by omega))
      replace HR2 := hide (HR2.out.below hb6 (by omega))
      replace HR4 := hide (HR4.out.below hb6 (by omega))
      have HB6 := hide (HB5.out.trans (hb6.mono (by omega)))
      have hz6 := hb6.size
      clear hb6 HB5
      go_wp2_with fail
      refine (awake_any w6).mono ?_
      rintro e w7 ⟨rfl, hb7⟩
      replace HV := hide (HV.out.below hb7 (by omega))
      replace HL := hide (HL.out.below hb7 (by omega))
      replace HR2 := hide (HR2.out.below hb7 (by omega))
      replace HR4 := hide (HR4.out.below hb7 (by omega))
      have HB7 := hide (HB6.out.trans (hb7.mono (by omega)))
      have hz7 := hb7.size
      clear hb7 HB6
      go_wp2_with fail
      go_ret
      exact ⟨rfl, HB7.out⟩
    · have HRD := hide hrd
      have HRW := hide (Cell.read_row hrd)
      clear hrd
      go_wp2_with fail
      refine (read_any A4 n' c4 l w5 HR4.out hcl4 (by unfold maxLen at hcm4; omega)).mono ?_
      rintro e w6 hpost
      obtain ⟨A5, c5, rfl, ho5, hb6, hr5⟩ := hpost.some HRD.out
      clear hpost
      obtain ⟨_, cc5, _, _, hl5, hm5⟩ := own_form ho5
      have HR5 := hide (Rv.own ho5 hr5)
      clear ho5 hr5
      replace HV := hide (HV.out.below hb6 (by omega))
      replace HL := hide (HL.out.below hb6 (by omega))
      replace HR2 := hide (HR2.out.below hb6 (by omega))
      replace HR4 := hide (HR4.out.below hb6 (by omega))
      have HB6 := hide (HB5.out.trans (hb6.mono (by omega)))
      have hz6 := hb6.size
      clear hb6 HB5
      go_wp2_with fail
      refine (row_any A5 vs.length c5 vs w6 HR5.out (by unfold maxLen at hm5; omega)).mono ?_
      rintro e w7 hpost
      obtain ⟨A6, c6, rfl, ho6, hb7, hl6, hm6⟩ := hpost.ok0 HRW.out
      clear hpost
      have HR6 := hide (Rb.own ho6)
      clear ho6
      replace HV := hide (HV.out.below hb7 (by omega))
      replace HL := hide (HL.out.below hb7 (by omega))
      replace HR2 := hide (HR2.out.below hb7 (by omega))
      replace HR4 := hide (HR4.out.below hb7 (by omega))
      replace HR5 := hide (HR5.out.below hb7 (by omega))
      have HB7 := hide (HB6.out.trans (hb7.mono (by omega)))
      have hz7 := hb7.size
      clear hb7 HB6
      go_wp2_with fail
      refine (sameBytes_any A6 A' l.length c6 n' c' l l w7 _ _ HR6.out HL.out (by unfold maxLen at hm6 ⊢; omega)).mono ?_
      rintro e w' ⟨rfl, q8, rfl⟩
      rw [show (l == l) = true from beq_self_eq_true _]
      obtain ⟨w8, hw8⟩ : ∃ x, x = w7.drewN q8 := ⟨_, rfl⟩
      rw [← hw8]
      replace HV := hide (HV.out.drewE hw8)
      replace HL := hide (HL.out.drewE hw8)
      replace HR2 := hide (HR2.out.drewE hw8)
      replace HR4 := hide (HR4.out.drewE hw8)
      replace HR5 := hide (HR5.out.drewE hw8)
      replace HR6 := hide (HR6.out.drewE hw8)
      have HB8 := hide (Below.drewE HB7.out hw8)
      have hz8 : w7.heap.size ≤ w8.heap.size := by rw [hw8]; exact Nat.le_refl _
      clear hw8 HB7
      go_wp2_with fail
      refine (awake_any w8).mono ?_
      rintro e w9 ⟨rfl, hb9⟩
      replace HV := hide (HV.out.below hb9 (by omega))
      replace HL := hide (HL.out.below hb9 (by omega))
      replace HR2 := hide (HR2.out.below hb9 (by omega))
      replace HR4 := hide (HR4.out.below hb9 (by omega))
      replace HR5 := hide (HR5.out.below hb9 (by omega))
      replace HR6 := hide (HR6.out.below hb9 (by omega))
      have HB9 := hide (HB8.out.trans (hb9.mono (by omega)))
      have hz9 := hb9.size
      clear hb9 HB8
      go_wp2_with fail
      go_ret
      exact ⟨rfl, HB9.out⟩
  · have t1 : ((p1 : Int) == 0) = false := by simp; exact h0
    clear h0
    go_wp2_with fail
    refine (copyBytes_any A' n' c' l w2 (HL.out.more (by omega)) HM.out).mono ?_
    rintro e w3 ⟨v3, rfl, ho3, hb3⟩
    obtain ⟨A4, c4, rfl, -, hcl4, hcm4⟩ := own_form ho3
    have HR4 := hide (Rb.own ho3)
    clear ho3
    replace HV := hide (HV.out.below hb3 (by omega))
    replace HL := hide (HL.out.below hb3 (by omega))
    replace HR2 := hide (HR2.out.below hb3 (by omega))
    have HB3 := hide (HB2.out.trans (hb3.mono (by omega)))
    have hz3 := hb3.size
    clear hb3 HB2
    rcases hrd : Cell.read l with _ | vs
    · have HRD := hide hrd
      clear hrd
      go_wp2_with fail
      refine (read_any A4 n' c4 l w3 HR4.out hcl4 (by unfold maxLen at hcm4; omega)).mono ?_
      rintro e w4 hpost
      obtain ⟨A5, c5, rfl, hb4⟩ := hpost.none HRD.out
      clear hpost
      replace HV := hide (HV.out.below hb4 (by omega))
      replace HL := hide (HL.out.below hb4 (by omega))
      replace HR2 := hide (HR2.out.below hb4 (by omega))
      replace HR4 := hide (HR4.out.below hb4 (by omega))
      have HB4 := hide (HB3.out.trans (hb4.mono (by omega)))
      have hz4 := hb4.size
      clear hb4 HB3
      go_wp2_with fail
      refine (awake_any w4).mono ?_
      rintro e w5 ⟨rfl, hb5⟩
      replace HV := hide (HV.out.below hb5 (by omega))
      replace HL := hide (HL.out.below hb5 (by omega))
      replace HR2 := hide (HR2.out.below hb5 (by omega))
      replace HR4 := hide (HR4.out.below hb5 (by omega))
      have HB5 := hide (HB4.out.trans (hb5.mono (by omega)))
      have hz5 := hb5.size
      clear hb5 HB4
      go_wp2_with fail
      go_ret
      exact ⟨rfl, HB5.out⟩
    · have HRD := hide hrd
      have HRW := hide (Cell.read_row hrd)
      clear hrd
      go_wp2_with fail
      refine (read_any A4 n' c4 l w3 HR4.out hcl4 (by unfold maxLen at hcm4; omega)).mono ?_
      rintro e w4 hpost
      obtain ⟨A5, c5, rfl, ho5, hb4, hr5⟩ := hpost.some HRD.out
      clear hpost
      obtain ⟨_, cc5, _, _, hl5, hm5⟩ := own_form ho5
      have HR5 := hide (Rv.own ho5 hr5)
      clear ho5 hr5
      replace HV := hide (HV.out.below hb4 (by omega))
      replace HL := hide (HL.out.below hb4 (by omega))
      replace HR2 := hide (HR2.out.below hb4 (by omega))
      replace HR4 := hide (HR4.out.below hb4 (by omega))
      have HB4 := hide (HB3.out.trans (hb4.mono (by omega)))
      have hz4 := hb4.size
      clear hb4 HB3
      go_wp2_with fail
      refine (row_any A5 vs.length c5 vs w4 HR5.out (by unfold maxLen at hm5; omega)).mono ?_
      rintro e w5 hpost
      obtain ⟨A6, c6, rfl, ho6, hb5, hl6, hm6⟩ := hpost.ok0 HRW.out
      clear hpost
      have HR6 := hide (Rb.own ho6)
      clear ho6
      replace HV := hide (HV.out.below hb5 (by omega))
      replace HL := hide (HL.out.below hb5 (by omega))
      replace HR2 := hide (HR2.out.below hb5 (by omega))
      replace HR4 := hide (HR4.out.below hb5 (by omega))
      replace HR5 := hide (HR5.out.below hb5 (by omega))
      have HB5 := hide (HB4.out.trans (hb5.mono (by omega)))
      have hz5 := hb5.size
      clear hb5 HB4
      go_wp2_with fail
      refine (sameBytes_any A6 A' l.length c6 n' c' l l w5 _ _ HR6.out HL.out (by unfold maxLen at hm6 ⊢; omega)).mono ?_
      rintro e w' ⟨rfl, q6, rfl⟩
      rw [show (l == l) = true from beq_self_eq_true _]
      obtain ⟨w6, hw6⟩ : ∃ x, x = w5.drewN q6 := ⟨_, rfl⟩
      rw [← hw6]
      replace HV := hide (HV.out.drewE hw6)
      replace HL := hide (HL.out.drewE hw6)
      replace HR2 := hide (HR2.out.drewE hw6)
      replace HR4 := hide (HR4.out.drewE hw6)
      replace HR5 := hide (HR5.out.drewE hw6)
      replace HR6 := hide (HR6.out.drewE hw6)
      have HB6 := hide (Below.drewE HB5.out hw6)
      have hz6 : w5.heap.size ≤ w6.heap.size := by rw [hw6]; exact Nat.le_refl _
      clear hw6 HB5
      go_wp2_with fail
      refine (awake_any w6).mono ?_
      rintro e w7 ⟨rfl, hb7⟩
      replace HV := hide (HV.out.below hb7 (by omega))
      replace HL := hide (HL.out.below hb7 (by omega))
      replace HR2 := hide (HR2.out.below hb7 (by omega))
      replace HR4 := hide (HR4.out.below hb7 (by omega))
      replace HR5 := hide (HR5.out.below hb7 (by omega))
      replace HR6 := hide (HR6.out.below hb7 (by omega))
      have HB7 := hide (HB6.out.trans (hb7.mono (by omega)))
      have hz7 := hb7.size
      clear hb7 HB6
      go_wp2_with fail
      go_ret
      exact ⟨rfl, HB7.out⟩
end Go.Proofs.Ytccapkkaeljnfaa
