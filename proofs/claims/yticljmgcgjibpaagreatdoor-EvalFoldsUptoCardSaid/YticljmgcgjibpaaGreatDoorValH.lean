/-
  The walk of math/bits.Div64 by ten thousand. Conditions: the high half is below ten thousand.
-/
import Derived.Test.YticljmgcgjibpaaGreatDoorValG
import Derived.Test.YticljmgcgjibpaaGreatDoorDiv
import Derived.Laws.BitsAllLaws
import Derived.LoopN
namespace Go.Proofs.YticljmgcgjibpaaGreatDoor
open Go.RowKit

def divV (N : Nat) : Value := .tuple #[.int .u64 ((N / 10000 : Nat) : Int), .int .u64 ((N % 10000 : Nat) : Int)]
set_option maxRecDepth 20000 in
set_option maxHeartbeats 3200000 in
theorem div_zero (lo : Nat) (w : World) (hl : lo < 18446744073709551616) : Calls Tryz.prog 98 #[.int .u64 0, .int .u64 (lo : Int), .int .u64 10000] w fun e w' => e = .returned (divV lo) ∧ ∃ q, w' = w.drewN q := by
  have hq : (lo : Int) / 10000 = ((lo / 10000 : Nat) : Int) := by omega
  have hr : (lo : Int) % 10000 = ((lo % 10000 : Nat) : Int) := by omega
  have HQ := hide hq
  have HR := hide hr
  clear hq hr
  go_enter Tryz.func98, Tryz.ntmps98
  go_wp2_with fail
  go_quiet (fail)
  go_wp2_with fail
  go_ret2
  exact ⟨by unfold divV; rw [← HQ.out, ← HR.out]; rfl, _, rfl⟩
theorem or_shl (a b : Nat) (hb : b < 1125899906842624) : a * 1125899906842624 ||| b = a * 1125899906842624 + b := by
  have := Nat.shiftLeft_add_eq_or_of_lt (i := 50) (b := b) (by simpa using hb) a
  rw [Nat.shiftLeft_eq] at this
  exact this.symm
theorem lz : (64 - (Lib.bitLen (10000 : Int).toNat : Int)) = 50 := by decide
set_option maxRecDepth 20000 in
set_option maxHeartbeats 3200000 in
theorem div_some (hi lo : Nat) (w : World) (h0 : hi ≠ 0) (hh : hi < 10000) (hl : lo < 18446744073709551616) : Calls Tryz.prog 98 #[.int .u64 (hi : Int), .int .u64 (lo : Int), .int .u64 10000] w fun e w' => e = .returned (divV (hi * 18446744073709551616 + lo)) ∧ w = w' := by
  obtain ⟨k1, k2, k3, k4⟩ := Div.whole hi lo hh hl
  have t0 : ((hi : Int) == 0) = false := by simp; omega
  have t1 : decide ((10000 : Int) ≤ (hi : Int)) = false := by simp; omega
  obtain ⟨U, hU⟩ : ∃ U, U = Div.un32 hi lo := ⟨_, rfl⟩
  obtain ⟨V, hV⟩ : ∃ V, V = Div.un1 lo := ⟨_, rfl⟩
  obtain ⟨A, hA⟩ : ∃ A, A = Div.q1 hi lo := ⟨_, rfl⟩
  obtain ⟨R, hR⟩ : ∃ R, R = Div.r1 hi lo := ⟨_, rfl⟩
  obtain ⟨W, hW⟩ : ∃ W, W = Div.un21 hi lo := ⟨_, rfl⟩
  obtain ⟨B, hB⟩ : ∃ B, B = Div.q0 hi lo := ⟨_, rfl⟩
  obtain ⟨C, hC⟩ : ∃ C, C = Div.r0 hi lo := ⟨_, rfl⟩
  have hA' : A = U / 2621440000 := by rw [hA, hU]; rfl
  have hR' : R = U % 2621440000 := by rw [hR, hU]; rfl
  have hW' : W = R * 4294967296 + V := by rw [hW, hR, hV]; rfl
  have hB' : B = W / 2621440000 := by rw [hB, hW]; rfl
  have hC' : C = W % 2621440000 := by rw [hC, hW]; rfl
  have hUl : U < 11258999068426240000 := by rw [hU]; unfold Div.un32; omega
  have hVl : V < 4294967296 := by rw [hV]; unfold Div.un1; omega
  rw [← hA, ← hB] at k1
  rw [← hC] at k2
  rw [← hA] at k3
  rw [← hB] at k4
  have e1 : bits .and .u64 11258999068426240000 4294967295 = 0 := by decide
  have e2 : bits .or .u64 ((hi : Int) * 1125899906842624) ((lo : Int) / 16384) = (U : Int) := by
    have := u64_or_nat (hi * 1125899906842624) (lo / 16384) (by omega) (by omega)
    rw [or_shl _ _ (by omega)] at this
    rw [show (hi : Int) * 1125899906842624 = ((hi * 1125899906842624 : Nat) : Int) by omega, show (lo : Int) / 16384 = ((lo / 16384 : Nat) : Int) by omega, this, hU]
    rfl
  have e3 : IntKind.u64.wrap ((lo : Int) * 1125899906842624) = (V : Int) * 4294967296 := by rw [IntKind.wrap_u64, hV]; unfold Div.un1; omega
  have e4 : bits .and .u64 ((V : Int) * 4294967296) 4294967295 = 0 := by
    have := u64_and_nat (V * 4294967296) 4294967295 (by omega) (by omega)
    rw [Nat.and_two_pow_sub_one_eq_mod (V * 4294967296) 32] at this
    rw [show (V : Int) * 4294967296 = ((V * 4294967296 : Nat) : Int) by omega]
    refine this.trans ?_
    omega
  have e5 : (V : Int) * 4294967296 / 4294967296 = (V : Int) := by omega
  have e6 : (U : Int) / 2621440000 = (A : Int) := by omega
  have HD : Hid (divV (hi * 18446744073709551616 + lo) = .tuple #[.int .u64 ((A * 4294967296 + B : Nat) : Int), .int .u64 ((C / 262144 : Nat) : Int)]) := by
    show _ = _
    unfold divV
    rw [k1, k2, Nat.mul_div_cancel _ (by decide)]
  have hRl : R < 2621440000 := by rw [hR']; omega
  have hCl : C < 2621440000 := by rw [hC']; omega
  have hWl : W < 11258999068426240000 := by rw [hW']; omega
  have e7 : (U : Int) - (A : Int) * 2621440000 = (R : Int) := by omega
  obtain ⟨P1, hP1⟩ : ∃ x, x = U * 4294967296 % 18446744073709551616 := ⟨_, rfl⟩
  obtain ⟨P3, hP3⟩ : ∃ x, x = A * 11258999068426240000 % 18446744073709551616 := ⟨_, rfl⟩
  have p1 : IntKind.u64.wrap ((U : Int) * 4294967296) = (P1 : Int) := by rw [IntKind.wrap_u64]; omega
  have p3 : IntKind.u64.wrap ((A : Int) * 11258999068426240000) = (P3 : Int) := by rw [IntKind.wrap_u64]; omega
  have p4 : IntKind.u64.wrap ((P1 : Int) + (V : Int) - (P3 : Int)) = (W : Int) := by rw [IntKind.wrap_u64]; omega
  have b1 : P1 ≤ 18446744069414584320 := by omega
  have e8 : (W : Int) / 2621440000 = (B : Int) := by omega
  have e9 : (W : Int) - (B : Int) * 2621440000 = (C : Int) := by omega
  obtain ⟨Q1, hQ1⟩ : ∃ x, x = W * 4294967296 % 18446744073709551616 := ⟨_, rfl⟩
  obtain ⟨Q3, hQ3⟩ : ∃ x, x = B * 11258999068426240000 % 18446744073709551616 := ⟨_, rfl⟩
  have q1 : IntKind.u64.wrap ((W : Int) * 4294967296) = (Q1 : Int) := by rw [IntKind.wrap_u64]; omega
  have q3 : IntKind.u64.wrap ((B : Int) * 11258999068426240000) = (Q3 : Int) := by rw [IntKind.wrap_u64]; omega
  have q4 : IntKind.u64.wrap ((Q1 : Int) - (Q3 : Int)) = (C : Int) * 4294967296 := by rw [IntKind.wrap_u64]; omega
  have q5 : (C : Int) * 4294967296 / 1125899906842624 = ((C / 262144 : Nat) : Int) := by omega
  have r1 : decide ((4294967296 : Int) ≤ (A : Int)) = false := by simp; omega
  have r2 : decide ((4294967296 : Int) ≤ (B : Int)) = false := by simp; omega
  have r3 : decide ((4294967296 : Int) * (R : Int) + (V : Int) < 0) = false := by simp; omega
  have r4 : decide ((4294967296 : Int) * (C : Int) < 0) = false := by simp; omega
  have b2 : Q1 ≤ 18446744069414584320 := by omega
  have HQ5 := hide q5
  clear k1 k2 hU hV hA hR hW hB hC hA' hR' hW' hB' hC' hP1 hP3 hQ1 hQ3 q5
  go_enter Tryz.func98, Tryz.ntmps98
  go_wp2_with fail
  with_reducible refine (Tryz.bits_LeadingZeros64 10000 w (by omega) (by omega)).mono ?_
  rintro e w' ⟨rfl, rfl⟩
  rw [lz]
  go_wp2_with fail
  refine wp_loop_rounds 1 ?_
  rw [rounds_succ]
  go_wp2_with fail
  refine wp_loop_rounds 1 ?_
  rw [rounds_succ]
  go_wp2_with fail
  go_ret2
  exact ⟨by rw [HD.out, ← HQ5.out]; rfl, rfl⟩
end Go.Proofs.YticljmgcgjibpaaGreatDoor
