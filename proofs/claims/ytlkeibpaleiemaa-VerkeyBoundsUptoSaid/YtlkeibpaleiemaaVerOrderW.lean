/-
  The walk of VerkeyOrder: it returns true, and writes nothing that was there. Conditions: slices read as lists of bytes.
-/
import Derived.Test.YtlkeibpaleiemaaVerLaws
namespace Go.Proofs.Ytlkeibpaleiemaa
open Go.RowKit

theorem pick62 (x : Int) : ∃ m : Nat, pick x 4611686018427387904 = (m : Int) ∧ m < 4611686018427387904 := by
  have h1 := Int.emod_nonneg x (show (4611686018427387904 : Int) ≠ 0 by decide)
  have h2 := Int.emod_lt_of_pos x (show (0 : Int) < 4611686018427387904 by decide)
  obtain ⟨m, hm⟩ := Int.eq_ofNat_of_zero_le h1
  refine ⟨m, by rw [pick, if_neg (by decide)]; exact hm, by omega⟩

set_option maxHeartbeats 1000000 in
theorem order_any (A0 : Option Addr) (n0 c0 : Nat) (l0 : List UInt8) (A1 : Option Addr) (n1 c1 : Nat) (l1 : List UInt8) (x y : Int) (w : World) (hl0 : Rb w w.heap.size A0 n0 l0) (_h0 : n0 ≤ c0) (_h0' : c0 ≤ maxLen) (hl1 : Rb w w.heap.size A1 n1 l1) (_h1 : n1 ≤ c1) (_h1' : c1 ≤ maxLen)
    (_hx : (Lit.int .i64 x).wf = true) (_hy : (Lit.int .i64 y).wf = true) :
    Calls Try.prog 3 #[.slice A0 n0 c0, .slice A1 n1 c1, .int .i64 x, .int .i64 y] w fun e w' => e = .returned (.bool true) ∧ Below w.heap.size w w' := by
  have HL0 := hide hl0
  have HL1 := hide hl1
  clear hl0 hl1 _hx _hy
  by_cases hm0 : (decide (0 < n0) && decide (n0 ≤ 128)) = true
  · have hn0 : 0 < n0 ∧ n0 ≤ 128 := by simpa using hm0
    obtain ⟨hn0a, hn0b⟩ := hn0
    have HM0 := hide hm0
    clear hm0
    go_enter Try.func3, Try.ntmps3
    go_wp2_with fail
    refine (may_any A0 n0 c0 _).mono ?_
    rintro e w1 ⟨rfl, rfl⟩
    rw [HM0.out]
    go_wp2_with fail
    refine (may_any A1 n1 c1 _).mono ?_
    rintro e w1 ⟨rfl, rfl⟩
    by_cases hm1 : (decide (0 < n1) && decide (n1 ≤ 128)) = true
    · have hn1 : 0 < n1 ∧ n1 ≤ 128 := by simpa using hm1
      obtain ⟨hn1a, hn1b⟩ := hn1
      rw [hm1]
      clear hm1
      go_wp2_with fail
      refine (pick_any x 4611686018427387904 _ (by omega) (by omega)).mono ?_
      rintro e w1 ⟨rfl, rfl⟩
      obtain ⟨m, hm, hml⟩ := pick62 x
      rw [hm]
      clear hm
      go_wp2_with fail
      refine (pick_any y 4611686018427387904 _ (by omega) (by omega)).mono ?_
      rintro e w1 ⟨rfl, rfl⟩
      obtain ⟨n, hn, hnl⟩ := pick62 y
      rw [hn]
      clear hn
      go_wp2_with fail
      refine (join_yes A0 n0 c0 l0 m _ HL0.out (by omega) hn0b (by omega)).mono ?_
      rintro e w1 ⟨v1, rfl, hown1, hb1⟩
      have HO1 := hide hown1
      have HB1 := hide hb1
      clear hown1 hb1
      obtain ⟨B1, d1, rfl, _⟩ := own_form HO1.out
      go_wp2_with fail
      refine (join_yes A1 n1 c1 l1 n _ ((HL1.out.below HB1.out (Nat.le_refl _)).more HB1.out.size) (by omega) hn1b (by omega)).mono ?_
      rintro e w2 ⟨v2, rfl, hown2, hb2⟩
      have HO2 := hide hown2
      have HB2 := hide hb2
      have HO12 := hide (own_below HO1.out hb2)
      have HB := hide (grow0 HB1.out HB1.out.size hb2)
      clear hown2 hb2
      obtain ⟨B2, d2, rfl, _⟩ := own_form HO2.out
      have hlen : (vjoin l0 m).length ≤ 266 := by
        have := (esc_len l0).2
        rw [HL0.out.len] at this
        rw [vjoin_len]
        omega
      have HC := hide (cmp_vjoin l0 l1 m n (by omega) (by omega))
      have HZ := hide (cmpB_zero l0 l1)
      generalize hX : vjoin l0 m = X at *
      generalize hY : vjoin l1 n = Y at *
      clear hX hY
      go_wp2_with fail
      refine (cmp_any A0 A1 _ c0 _ c1 l0 l1 _ _ _ (HL0.out.below HB.out (Nat.le_refl _)) (HL1.out.below HB.out (Nat.le_refl _))).mono ?_
      rintro e w3 ⟨rfl, rfl⟩
      by_cases heq : l0 = l1
      · have hz := HZ.out.2 heq
        rw [hz]
        have hc := HC.out
        rw [if_pos heq] at hc
        have HC' := hide hc
        clear hz hc heq HC HZ
        rcases Nat.lt_trichotomy n m with h | h | h
        · have HC2 : Hid (cmpB X Y = -1) := by have := HC'.out; rw [if_pos h] at this; exact this
          have hne : ((m : Int) != (n : Int)) = true := by simp; omega
          go_wp2_with fail
          refine (cmp_any B1 B2 _ d1 _ d2 X Y _ _ _ (Rb.own HO12.out) (Rb.own HO2.out)).mono ?_
          rintro e w4 ⟨rfl, rfl⟩
          rw [HC2.out]
          go_wp2_with fail
          refine (awake_any _).mono ?_
          rintro e w5 ⟨rfl, hb5⟩
          go_wp2
          go_ret
          exact ⟨rfl, grow0 HB.out HB.out.size hb5⟩
        · subst h
          have HC2 : Hid (cmpB X Y = 0) := by have := HC'.out; rw [if_neg (by omega), if_neg (by omega)] at this; exact this
          go_wp2_with fail
          refine (cmp_any B1 B2 _ d1 _ d2 X Y _ _ _ (Rb.own HO12.out) (Rb.own HO2.out)).mono ?_
          rintro e w4 ⟨rfl, rfl⟩
          rw [HC2.out]
          go_wp2_with fail
          refine (awake_any _).mono ?_
          rintro e w5 ⟨rfl, hb5⟩
          go_wp2
          go_ret
          exact ⟨rfl, grow0 HB.out HB.out.size hb5⟩
        · have HC2 : Hid (cmpB X Y = 1) := by have := HC'.out; rw [if_neg (by omega), if_pos h] at this; exact this
          have hne : ((m : Int) != (n : Int)) = true := by simp; omega
          go_wp2_with fail
          refine (cmp_any B1 B2 _ d1 _ d2 X Y _ _ _ (Rb.own HO12.out) (Rb.own HO2.out)).mono ?_
          rintro e w4 ⟨rfl, rfl⟩
          rw [HC2.out]
          go_wp2_with fail
          refine (awake_any _).mono ?_
          rintro e w5 ⟨rfl, hb5⟩
          go_wp2
          go_ret
          exact ⟨rfl, grow0 HB.out HB.out.size hb5⟩
      · have hz : (cmpB l0 l1 == 0) = false := by
          simp only [beq_eq_false_iff_ne, ne_eq]
          exact fun h => heq (HZ.out.1 h)
        have HC2 : Hid (cmpB X Y = cmpB l0 l1) := by have := HC.out; rw [if_neg heq] at this; exact this
        clear heq HC HZ
        generalize cmpB l0 l1 = z at *
        go_wp2_with fail
        refine (cmp_any B1 B2 _ d1 _ d2 X Y _ _ _ (Rb.own HO12.out) (Rb.own HO2.out)).mono ?_
        rintro e w4 ⟨rfl, rfl⟩
        rw [HC2.out]
        go_wp2_with fail
        refine (awake_any _).mono ?_
        rintro e w5 ⟨rfl, hb5⟩
        go_wp2
        go_ret
        exact ⟨rfl, grow0 HB.out HB.out.size hb5⟩
    · rw [Bool.not_eq_true] at hm1
      rw [hm1]
      go_wp2_with fail
      refine (awake_any _).mono ?_
      rintro e w5 ⟨rfl, hb5⟩
      go_wp2
      go_ret
      exact ⟨rfl, hb5⟩
  · rw [Bool.not_eq_true] at hm0
    have HM0 := hide hm0
    clear hm0
    go_enter Try.func3, Try.ntmps3
    go_wp2_with fail
    refine (may_any A0 n0 c0 _).mono ?_
    rintro e w1 ⟨rfl, rfl⟩
    rw [HM0.out]
    go_wp2_with fail
    refine (awake_any _).mono ?_
    rintro e w5 ⟨rfl, hb5⟩
    go_wp2
    go_ret
    exact ⟨rfl, hb5⟩
end Go.Proofs.Ytlkeibpaleiemaa
