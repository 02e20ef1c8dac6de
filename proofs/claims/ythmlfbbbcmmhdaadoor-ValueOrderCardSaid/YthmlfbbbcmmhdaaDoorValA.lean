/-
  The walks of package value: number, size, times, (wide).plus, fitting. Conditions: numbers within 64 bits.
-/
import Derived.Test.YthmlfbbbcmmhdaaDoorRefJ
import Derived.Test.YthmlfbbbcmmhdaaDoorShelf17
import Derived.Shelf.Spec.BitsCarry
namespace Go.Proofs.YthmlfbbbcmmhdaaDoor
open Go.RowKit

theorem number_any (k : UInt8) (ki : Int) (hk : ki = (k.toNat : Int)) (w : World) : Calls Tryd.prog 38 #[.int .u8 ki] w fun e w' => e = .returned (.bool (Val.numB k)) ∧ w = w' := by
  subst hk
  obtain ⟨r, hr⟩ : ∃ r, r = Val.numB k := ⟨_, rfl⟩
  rw [← hr]
  unfold Val.numB at hr
  by_cases h2 : k.toNat = 2
  · have t2 : ((k.toNat : Int) == 2) = true := by simp; omega
    rw [decide_eq_true h2, Bool.true_or] at hr
    have HR := hide hr
    clear hr h2
    go_enter Tryd.func38, Tryd.ntmps38
    go_wp2_with fail
    go_ret
    exact ⟨by rw [HR.out]; rfl, rfl⟩
  · have t2 : ((k.toNat : Int) == 2) = false := by simp; omega
    rw [decide_eq_false h2, Bool.false_or] at hr
    have HR : Hid (r = ((k.toNat : Int) == 3)) := by
      show _ = _
      rw [hr, Bool.eq_iff_iff]
      simp
      omega
    clear hr h2
    go_enter Tryd.func38, Tryd.ntmps38
    go_wp2_with fail
    go_ret
    exact ⟨by rw [HR.out]; rfl, rfl⟩
theorem size_any (n : Int) (w : World) (h0 : -9223372036854775808 ≤ n) (h1 : n ≤ 9223372036854775807) : Calls Tryd.prog 77 #[.int .i64 n] w fun e w' => e = .returned (.int .u64 ((n.natAbs : Nat) : Int)) ∧ w = w' := by
  by_cases hn : n < 0
  · obtain ⟨u, rfl⟩ : ∃ u : Nat, n = -(u : Int) := ⟨n.natAbs, by omega⟩
    rw [show (-(u : Int)).natAbs = u by omega]
    have hwr : IntKind.u64.wrap (-IntKind.u64.wrap (-(u : Int))) = (u : Int) := by rw [IntKind.wrap_u64, IntKind.wrap_u64]; omega
    go_enter Tryd.func77, Tryd.ntmps77
    go_wp2_with fail
    go_ret
    exact ⟨rfl, rfl⟩
  · obtain ⟨u, rfl⟩ : ∃ u : Nat, n = (u : Int) := ⟨n.natAbs, by omega⟩
    rw [show ((u : Int)).natAbs = u by omega]
    have hwr : IntKind.u64.wrap (u : Int) = (u : Int) := by rw [IntKind.wrap_u64]; omega
    go_enter Tryd.func77, Tryd.ntmps77
    go_wp2_with fail
    go_ret
    exact ⟨rfl, rfl⟩
/-- A number of 128 bits with a sign. -/
def wideA (X : Int) : Array Value := #[.int .i64 (X / 18446744073709551616), .int .u64 (X % 18446744073709551616)]
set_option maxRecDepth 8000 in
set_option maxHeartbeats 1600000 in
theorem times_any (a b : Int) (w : World) (h0 : -9223372036854775808 ≤ a) (h1 : a ≤ 9223372036854775807) (h0' : -9223372036854775808 ≤ b) (h1' : b ≤ 9223372036854775807) :
    Calls Tryd.prog 60 #[.int .i64 a, .int .i64 b] w fun e w' => e = .returned (.agg (wideA (a * b))) ∧ Below w.heap.size w w' := by
  obtain ⟨X, hX⟩ : ∃ X, X = a * b := ⟨_, rfl⟩
  rw [← hX]
  have hXl : X ≤ 85070591730234615865843651857942052864 ∧ -85070591730234615865843651857942052864 ≤ X := by
    have h2 := Nat.mul_le_mul (show a.natAbs ≤ 9223372036854775808 by omega) (show b.natAbs ≤ 9223372036854775808 by omega)
    rw [← Int.natAbs_mul, ← hX] at h2
    omega
  obtain ⟨ua, hua⟩ : ∃ u : Nat, (u : Int) = a % 18446744073709551616 := ⟨(a % 18446744073709551616).toNat, by omega⟩
  obtain ⟨ub, hub⟩ : ∃ u : Nat, (u : Int) = b % 18446744073709551616 := ⟨(b % 18446744073709551616).toNat, by omega⟩
  have hual : ua < 18446744073709551616 := by omega
  have hubl : ub < 18446744073709551616 := by omega
  have hwa : IntKind.u64.wrap a = (ua : Int) := by rw [IntKind.wrap_u64]; omega
  have hwb : IntKind.u64.wrap b = (ub : Int) := by rw [IntKind.wrap_u64]; omega
  obtain ⟨q, hq⟩ : ∃ q, q = ua * ub := ⟨_, rfl⟩
  obtain ⟨hi, hhi⟩ : ∃ q', q' = q / 18446744073709551616 := ⟨_, rfl⟩
  obtain ⟨lo, hlo⟩ : ∃ q', q' = q % 18446744073709551616 := ⟨_, rfl⟩
  have hqI : (q : Int) = (ua : Int) * (ub : Int) := by rw [hq]; push_cast; rfl
  have hil : hi < 18446744073709551616 := by
    have : q ≤ 18446744073709551615 * 18446744073709551615 := by rw [hq]; exact Nat.mul_le_mul (by omega) (by omega)
    omega
  have HM : Hid (Calls Tryd.prog 81 #[.int .u64 (ua : Int), .int .u64 (ub : Int)] (w.alloc (.cells #[.int .i64 0, .int .u64 0] 73)) fun e w' => e = .returned (.tuple #[.int .u64 (hi : Int), .int .u64 (lo : Int)]) ∧ w' = w.alloc (.cells #[.int .i64 0, .int .u64 0] 73)) := by
    have := Tryd.bits_Mul64 ua ub hual hubl (w.alloc (.cells #[.int .i64 0, .int .u64 0] 73))
    rw [← hq, ← hhi, ← hlo] at this
    exact this
  -- the four signs: what the high half comes to
  by_cases ha : a < 0
  · by_cases hb : b < 0
    · have e1 : (q : Int) = X + 18446744073709551616 * (a + b) + 18446744073709551616 * 18446744073709551616 := by
        rw [hqI, hX, show (ua : Int) = a + 18446744073709551616 by omega, show (ub : Int) = b + 18446744073709551616 by omega, Int.add_mul, Int.mul_add, Int.mul_add]
        omega
      have s1 : IntKind.i64.wrap (IntKind.u64.wrap (IntKind.u64.wrap ((hi : Int) - (ub : Int)) - (ua : Int))) = X / 18446744073709551616 := by
        simp only [IntKind.wrap_u64, IntKind.wrap_i64]
        omega
      have s2 : (lo : Int) = X % 18446744073709551616 := by omega
      have HS2 := hide s2
      clear hX hXl hua hub hq hhi hlo hqI e1 s2
      go_enter Tryd.func60, Tryd.ntmps60
      go_wp2_with fail
      refine HM.out.mono ?_
      rintro e w' ⟨rfl, rfl⟩
      go_wp2_with fail
      refine bodyPost_ret (v := .agg (wideA X)) (by simp [results, Tryd.results60, go_sem, wideA, HS2.out]) rfl ⟨rfl, ?_⟩
      exact (Below.refl _ _).alloc (Nat.le_refl _) _
    · have e1 : (q : Int) = X + 18446744073709551616 * b := by
        rw [hqI, hX, show (ua : Int) = a + 18446744073709551616 by omega, show (ub : Int) = b by omega, Int.add_mul]
      have s1 : IntKind.i64.wrap (IntKind.u64.wrap ((hi : Int) - (ub : Int))) = X / 18446744073709551616 := by
        simp only [IntKind.wrap_u64, IntKind.wrap_i64]
        omega
      have s2 : (lo : Int) = X % 18446744073709551616 := by omega
      have HS2 := hide s2
      clear hX hXl hua hub hq hhi hlo hqI e1 s2
      go_enter Tryd.func60, Tryd.ntmps60
      go_wp2_with fail
      refine HM.out.mono ?_
      rintro e w' ⟨rfl, rfl⟩
      go_wp2_with fail
      refine bodyPost_ret (v := .agg (wideA X)) (by simp [results, Tryd.results60, go_sem, wideA, HS2.out]) rfl ⟨rfl, ?_⟩
      exact (Below.refl _ _).alloc (Nat.le_refl _) _
  · by_cases hb : b < 0
    · have e1 : (q : Int) = X + 18446744073709551616 * a := by
        rw [hqI, hX, show (ua : Int) = a by omega, show (ub : Int) = b + 18446744073709551616 by omega, Int.mul_add]
        omega
      have s1 : IntKind.i64.wrap (IntKind.u64.wrap ((hi : Int) - (ua : Int))) = X / 18446744073709551616 := by
        simp only [IntKind.wrap_u64, IntKind.wrap_i64]
        omega
      have s2 : (lo : Int) = X % 18446744073709551616 := by omega
      have HS2 := hide s2
      clear hX hXl hua hub hq hhi hlo hqI e1 s2
      go_enter Tryd.func60, Tryd.ntmps60
      go_wp2_with fail
      refine HM.out.mono ?_
      rintro e w' ⟨rfl, rfl⟩
      go_wp2_with fail
      refine bodyPost_ret (v := .agg (wideA X)) (by simp [results, Tryd.results60, go_sem, wideA, HS2.out]) rfl ⟨rfl, ?_⟩
      exact (Below.refl _ _).alloc (Nat.le_refl _) _
    · have e1 : (q : Int) = X := by
        rw [hqI, hX, show (ua : Int) = a by omega, show (ub : Int) = b by omega]
      have s1 : IntKind.i64.wrap (hi : Int) = X / 18446744073709551616 := by
        simp only [IntKind.wrap_i64]
        omega
      have s2 : (lo : Int) = X % 18446744073709551616 := by omega
      have HS2 := hide s2
      clear hX hXl hua hub hq hhi hlo hqI e1 s2
      go_enter Tryd.func60, Tryd.ntmps60
      go_wp2_with fail
      refine HM.out.mono ?_
      rintro e w' ⟨rfl, rfl⟩
      go_wp2_with fail
      refine bodyPost_ret (v := .agg (wideA X)) (by simp [results, Tryd.results60, go_sem, wideA, HS2.out]) rfl ⟨rfl, ?_⟩
      exact (Below.refl _ _).alloc (Nat.le_refl _) _
end Go.Proofs.YthmlfbbbcmmhdaaDoor
