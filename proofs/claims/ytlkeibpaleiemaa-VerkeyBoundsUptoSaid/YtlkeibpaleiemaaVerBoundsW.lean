/-
  The walk of VerkeyBounds: it returns true, and writes nothing that was there. Conditions: slices read as lists of bytes, of at most 2^20 bytes.
-/
import Derived.Test.YtlkeibpaleiemaaVerOrderW
namespace Go.Proofs.Ytlkeibpaleiemaa
open Go.RowKit

set_option maxHeartbeats 1000000 in
theorem bounds_any (A0 : Option Addr) (n0 c0 : Nat) (l0 : List UInt8) (A1 : Option Addr) (n1 c1 : Nat) (l1 : List UInt8) (x : Int) (w : World) (hl0 : Rb w w.heap.size A0 n0 l0) (h0 : n0 ≤ c0) (_h0' : c0 ≤ maxLen) (hu0 : c0 ≤ 1048576) (hl1 : Rb w w.heap.size A1 n1 l1) (_h1 : n1 ≤ c1) (_h1' : c1 ≤ maxLen) (_hu1 : c1 ≤ 1048576)
    (_hx : (Lit.int .i64 x).wf = true) :
    Calls Try.prog 6 #[.slice A0 n0 c0, .slice A1 n1 c1, .int .i64 x] w fun e w' => e = .returned (.bool true) ∧ Below w.heap.size w w' := by
  have HL0 := hide hl0
  have HL1 := hide hl1
  clear hl0 hl1 _hx
  by_cases hm1 : (decide (0 < n1) && decide (n1 ≤ 128)) = true
  · have hn1 : 0 < n1 ∧ n1 ≤ 128 := by simpa using hm1
    obtain ⟨hn1a, hn1b⟩ := hn1
    have HM1 := hide hm1
    clear hm1
    go_enter Try.func6, Try.ntmps6
    go_wp2_with fail
    refine (may_any A1 n1 c1 _).mono ?_
    rintro e w1 ⟨rfl, rfl⟩
    rw [HM1.out]
    go_wp2_with fail
    refine (pick_any x 4611686018427387904 _ (by omega) (by omega)).mono ?_
    rintro e w1 ⟨rfl, rfl⟩
    obtain ⟨m, hm, hml⟩ := pick62 x
    rw [hm]
    clear hm
    go_wp2_with fail
    refine (join_yes A1 n1 c1 l1 m _ HL1.out (by omega) hn1b (by omega)).mono ?_
    rintro e w1 ⟨v1, rfl, hown1, hb1⟩
    have HO1 := hide hown1
    have HB1 := hide hb1
    clear hown1 hb1
    obtain ⟨B1, d1, rfl⟩ := own_sl HO1.out
    have HF := hide (cmp_first l0 l1 m)
    have HBe := hide (cmp_behind l0 l1 m)
    have HZ := hide (cmpB_zero l0 l1)
    have HAn := hide (cmpB_anti l0 l1)
    have HRa := hide (cmpB_range l0 l1)
    generalize hY : vjoin l1 m = Y at *
    clear hY
    go_wp2_with fail
    refine (first_any A0 n0 c0 l0 _ ((HL0.out.below HB1.out (Nat.le_refl _)).more HB1.out.size) (by omega)).mono ?_
    rintro e w2 ⟨v2, rfl, hown2, hb2⟩
    have HO2 := hide hown2
    have HO12 := hide (own_below HO1.out hb2)
    have HB2 := hide (grow0 HB1.out HB1.out.size hb2)
    clear hown2 hb2
    obtain ⟨B2, d2, rfl⟩ := own_sl HO2.out
    go_wp2_with fail
    refine (cmp_any _ _ _ _ _ _ _ _ _ _ _ (Rb.own HO2.out) (Rb.own HO12.out)).mono ?_
    rintro e w2' ⟨rfl, rfl⟩
    rcases HRa.out with hz | hz | hz
    · have HZz := hide hz
      have hs : (l0 == l1) = false := by
        have := HZ.out
        rw [hz] at this
        simpa using fun h => absurd (this.2 h) (by decide)
      have HSame := hide hs
      clear hs
      obtain ⟨p, hp⟩ : ∃ p, cmpB (vtext l0 0) Y = p := ⟨_, rfl⟩
      have HP := hide hp
      have hpp : p ≤ 0 := by
        have := HF.out
        rw [hz, hp] at this
        omega
      obtain ⟨q, hq⟩ : ∃ q, cmpB Y (vtext l0 1) = q := ⟨_, rfl⟩
      have HQ := hide hq
      have hqq : decide (q < 0) = false := by
        have := HBe.out
        rw [hq, HAn.out, hz] at this
        simp
        omega
      rw [hp]
      clear hp hq hz
      go_wp2_with fail
      refine (behind_any A0 n0 c0 l0 _ ((HL0.out.below HB2.out (Nat.le_refl _)).more HB2.out.size) (by omega)).mono ?_
      rintro e w3 ⟨v3, rfl, hown3, hb3⟩
      have HO3 := hide hown3
      have HO1x := hide (own_below HO12.out hb3)
      have HBx := hide (grow0 HB2.out HB2.out.size hb3)
      clear hown3 hb3
      obtain ⟨B3, d3, rfl⟩ := own_sl HO3.out
      go_wp2_with fail
      refine (cmp_any _ _ _ _ _ _ _ _ _ _ _ (Rb.own HO1x.out) (Rb.own HO3.out)).mono ?_
      rintro e w3' ⟨rfl, rfl⟩
      rw [HQ.out]
      go_wp2_with fail
      refine (first_any A0 n0 c0 l0 _ ((HL0.out.below HBx.out (Nat.le_refl _)).more HBx.out.size) (by omega)).mono ?_
      rintro e w5 ⟨v5, rfl, hown5, hb5⟩
      have HO5 := hide hown5
      have HO15 := hide (own_below HO1x.out hb5)
      have HB5 := hide (grow0 HBx.out HBx.out.size hb5)
      clear hown5 hb5
      obtain ⟨B5, d5, rfl⟩ := own_sl HO5.out
      go_wp2_with fail
      refine (cmp_any _ _ _ _ _ _ _ _ _ _ _ (Rb.own HO5.out) (Rb.own HO15.out)).mono ?_
      rintro e w5' ⟨rfl, rfl⟩
      rw [HP.out]
      go_wp2_with fail
      refine (cmp_any A0 A1 _ c0 _ c1 l0 l1 _ _ _ (HL0.out.below HB5.out (Nat.le_refl _)) (HL1.out.below HB5.out (Nat.le_refl _))).mono ?_
      rintro e w5' ⟨rfl, rfl⟩
      rw [HZz.out]
      go_wp2_with fail
      refine (same_any A0 A1 _ c0 _ c1 l0 l1 _ _ _ (HL0.out.below HB5.out (Nat.le_refl _)) (HL1.out.below HB5.out (Nat.le_refl _))).mono ?_
      rintro e w5' ⟨rfl, rfl⟩
      rw [HSame.out]
      go_wp2_with fail
      refine (awake_any _).mono ?_
      rintro e w6 ⟨rfl, hb6⟩
      go_wp2
      go_ret
      exact ⟨rfl, grow0 HB5.out HB5.out.size hb6⟩
    · have HZz := hide hz
      have hs : (l0 == l1) = true := by
        have := HZ.out
        rw [hz] at this
        simpa using this
      have HSame := hide hs
      clear hs
      obtain ⟨p, hp⟩ : ∃ p, cmpB (vtext l0 0) Y = p := ⟨_, rfl⟩
      have HP := hide hp
      have hpp : p ≤ 0 := by
        have := HF.out
        rw [hz, hp] at this
        omega
      obtain ⟨q, hq⟩ : ∃ q, cmpB Y (vtext l0 1) = q := ⟨_, rfl⟩
      have HQ := hide hq
      have hqq : decide (q < 0) = true := by
        have := HBe.out
        rw [hq, HAn.out, hz] at this
        simp
        omega
      rw [hp]
      clear hp hq hz
      go_wp2_with fail
      refine (behind_any A0 n0 c0 l0 _ ((HL0.out.below HB2.out (Nat.le_refl _)).more HB2.out.size) (by omega)).mono ?_
      rintro e w3 ⟨v3, rfl, hown3, hb3⟩
      have HO3 := hide hown3
      have HO1x := hide (own_below HO12.out hb3)
      have HBx := hide (grow0 HB2.out HB2.out.size hb3)
      clear hown3 hb3
      obtain ⟨B3, d3, rfl⟩ := own_sl HO3.out
      go_wp2_with fail
      refine (cmp_any _ _ _ _ _ _ _ _ _ _ _ (Rb.own HO1x.out) (Rb.own HO3.out)).mono ?_
      rintro e w3' ⟨rfl, rfl⟩
      rw [HQ.out]
      go_wp2_with fail
      refine (first_any A0 n0 c0 l0 _ ((HL0.out.below HBx.out (Nat.le_refl _)).more HBx.out.size) (by omega)).mono ?_
      rintro e w5 ⟨v5, rfl, hown5, hb5⟩
      have HO5 := hide hown5
      have HO15 := hide (own_below HO1x.out hb5)
      have HB5 := hide (grow0 HBx.out HBx.out.size hb5)
      clear hown5 hb5
      obtain ⟨B5, d5, rfl⟩ := own_sl HO5.out
      go_wp2_with fail
      refine (cmp_any _ _ _ _ _ _ _ _ _ _ _ (Rb.own HO5.out) (Rb.own HO15.out)).mono ?_
      rintro e w5' ⟨rfl, rfl⟩
      rw [HP.out]
      go_wp2_with fail
      refine (cmp_any A0 A1 _ c0 _ c1 l0 l1 _ _ _ (HL0.out.below HB5.out (Nat.le_refl _)) (HL1.out.below HB5.out (Nat.le_refl _))).mono ?_
      rintro e w5' ⟨rfl, rfl⟩
      rw [HZz.out]
      go_wp2_with fail
      refine (same_any A0 A1 _ c0 _ c1 l0 l1 _ _ _ (HL0.out.below HB5.out (Nat.le_refl _)) (HL1.out.below HB5.out (Nat.le_refl _))).mono ?_
      rintro e w5' ⟨rfl, rfl⟩
      rw [HSame.out]
      go_wp2_with fail
      refine (awake_any _).mono ?_
      rintro e w6 ⟨rfl, hb6⟩
      go_wp2
      go_ret
      exact ⟨rfl, grow0 HB5.out HB5.out.size hb6⟩
    · have HZz := hide hz
      have hs : (l0 == l1) = false := by
        have := HZ.out
        rw [hz] at this
        simpa using fun h => absurd (this.2 h) (by decide)
      have HSame := hide hs
      clear hs
      obtain ⟨p, hp⟩ : ∃ p, cmpB (vtext l0 0) Y = p := ⟨_, rfl⟩
      have HP := hide hp
      have hpp : 0 < p := by
        have := HF.out
        rw [hz, hp] at this
        omega
      obtain ⟨q, hq⟩ : ∃ q, cmpB Y (vtext l0 1) = q := ⟨_, rfl⟩
      have HQ := hide hq
      have hqq : decide (q < 0) = true := by
        have := HBe.out
        rw [hq, HAn.out, hz] at this
        simp
        omega
      rw [hp]
      clear hp hq hz
      have HO1x := HO12
      have HBx := HB2
      go_wp2_with fail
      refine (first_any A0 n0 c0 l0 _ ((HL0.out.below HBx.out (Nat.le_refl _)).more HBx.out.size) (by omega)).mono ?_
      rintro e w5 ⟨v5, rfl, hown5, hb5⟩
      have HO5 := hide hown5
      have HO15 := hide (own_below HO1x.out hb5)
      have HB5 := hide (grow0 HBx.out HBx.out.size hb5)
      clear hown5 hb5
      obtain ⟨B5, d5, rfl⟩ := own_sl HO5.out
      go_wp2_with fail
      refine (cmp_any _ _ _ _ _ _ _ _ _ _ _ (Rb.own HO5.out) (Rb.own HO15.out)).mono ?_
      rintro e w5' ⟨rfl, rfl⟩
      rw [HP.out]
      go_wp2_with fail
      refine (cmp_any A0 A1 _ c0 _ c1 l0 l1 _ _ _ (HL0.out.below HB5.out (Nat.le_refl _)) (HL1.out.below HB5.out (Nat.le_refl _))).mono ?_
      rintro e w5' ⟨rfl, rfl⟩
      rw [HZz.out]
      go_wp2_with fail
      refine (same_any A0 A1 _ c0 _ c1 l0 l1 _ _ _ (HL0.out.below HB5.out (Nat.le_refl _)) (HL1.out.below HB5.out (Nat.le_refl _))).mono ?_
      rintro e w5' ⟨rfl, rfl⟩
      rw [HSame.out]
      go_wp2_with fail
      refine (awake_any _).mono ?_
      rintro e w6 ⟨rfl, hb6⟩
      go_wp2
      go_ret
      exact ⟨rfl, grow0 HB5.out HB5.out.size hb6⟩
  · rw [Bool.not_eq_true] at hm1
    have HM1 := hide hm1
    clear hm1
    go_enter Try.func6, Try.ntmps6
    go_wp2_with fail
    refine (may_any A1 n1 c1 _).mono ?_
    rintro e w1 ⟨rfl, rfl⟩
    rw [HM1.out]
    go_wp2_with fail
    refine (awake_any _).mono ?_
    rintro e w5 ⟨rfl, hb5⟩
    go_wp2
    go_ret
    exact ⟨rfl, hb5⟩
end Go.Proofs.Ytlkeibpaleiemaa
