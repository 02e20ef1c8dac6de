/-
  The walks of package value: number, size, times, (wide).plus, fitting. Conditions: numbers within 64 bits.
-/
import Derived.Test.YticljmgcgjibpaaGreatDoorRefJ
import Derived.Test.YticljmgcgjibpaaGreatDoorShelf17
import Derived.Shelf.Spec.BitsCarry
namespace Go.Proofs.YticljmgcgjibpaaGreatDoor
open Go.RowKit

theorem number_any (k : UInt8) (ki : Int) (hk : ki = (k.toNat : Int)) (w : World) : Calls Tryz.prog 83 #[.int .u8 ki] w fun e w' => e = .returned (.bool (Val.numB k)) ∧ w = w' := by
  subst hk
  obtain ⟨r, hr⟩ : ∃ r, r = Val.numB k := ⟨_, rfl⟩
  rw [← hr]
  unfold Val.numB at hr
  by_cases h2 : k.toNat = 2
  · have t2 : ((k.toNat : Int) == 2) = true := by simp; omega
    rw [decide_eq_true h2, Bool.true_or] at hr
    have HR := hide hr
    clear hr h2
    go_enter Tryz.func83, Tryz.ntmps83
    go_wp2_with fail
    go_ret
    exact ⟨by rw [HR.out]; rfl, rfl⟩
  · have t2 : ((k.toNat : Int) == 2) = false := by simp; omega
    rw [decide_eq_false h2, Bool.false_or] at hr
    have HR : Hid (r = ((k.toNat : Int) == 3)) := by
      show _ = _
      rw [hr, Bool.eq_iff_iff]
      simp
      omega
    clear hr h2
    go_enter Tryz.func83, Tryz.ntmps83
    go_wp2_with fail
    go_ret
    exact ⟨by rw [HR.out]; rfl, rfl⟩
theorem size_any (n : Int) (w : World) (h0 : -9223372036854775808 ≤ n) (h1 : n ≤ 9223372036854775807) : Calls Tryz.prog 97 #[.int .i64 n] w fun e w' => e = .returned (.int .u64 ((n.natAbs : Nat) : Int)) ∧ w = w' := by
  by_cases hn : n < 0
  · obtain ⟨u, rfl⟩ : ∃ u : Nat, n = -(u : Int) := ⟨n.natAbs, by omega⟩
    rw [show (-(u : Int)).natAbs = u by omega]
    have hwr : IntKind.u64.wrap (-IntKind.u64.wrap (-(u : Int))) = (u : Int) := by rw [IntKind.wrap_u64, IntKind.wrap_u64]; omega
    go_enter Tryz.func97, Tryz.ntmps97
    go_wp2_with fail
    go_ret
    exact ⟨rfl, rfl⟩
  · obtain ⟨u, rfl⟩ : ∃ u : Nat, n = (u : Int) := ⟨n.natAbs, by omega⟩
    rw [show ((u : Int)).natAbs = u by omega]
    have hwr : IntKind.u64.wrap (u : Int) = (u : Int) := by rw [IntKind.wrap_u64]; omega
    go_enter Tryz.func97, Tryz.ntmps97
    go_wp2_with fail
    go_ret
    exact ⟨rfl, rfl⟩
/-- A number of 128 bits with a sign. -/
def wideA (X : Int) : Array Value := #[.int .i64 (X / 18446744073709551616), .int .u64 (X % 18446744073709551616)]
set_option maxRecDepth 8000 in
set_option maxHeartbeats 1600000 in
theorem times_any (a b : Int) (w : World) (h0 : -9223372036854775808 ≤ a) (h1 : a ≤ 9223372036854775807) (h0' : -9223372036854775808 ≤ b) (h1' : b ≤ 9223372036854775807) :
    Calls Tryz.prog 81 #[.int .i64 a, .int .i64 b] w fun e w' => e = .returned (.agg (wideA (a * b))) ∧ Below w.heap.size w w' := by
  obtain ⟨X, hX⟩ : ∃ X, X = a * b := ⟨_, rfl⟩
  rw [← hX]
  have hXl : X ≤ 85070591730234615865843651857942052864 ∧ -85070591730234615865843651857942052864 ≤ X := by
    have h2 := Nat.mul_le_mul (show a.natAbs ≤ 9223372036854775808 by omega) (show b.natAbs ≤ 9223372036854775808 by omega)
    rw [← Int.natAbs_mul, ← hX] at h2
    omega
  obtain ⟨ua, hua⟩ : ∃ u : Nat, (u : Int) = a % 18446744073709551616 := ⟨(a % 18446744073709551616).toNat, by omega⟩
  obtain ⟨ub, hub⟩ : ∃ u : Nat, (u : Int) = b % 18446744073709551616 := ⟨(b % 18446744073709551616).toNat, by omega⟩
  have hual : ua < 18446744073709551616 := by omega
  have hubl : ub < 18446744073709551616 := by omega
  have hwa : IntKind.u64.wrap a = (ua : Int) := by rw [IntKind.wrap_u64]; omega
  have hwb : IntKind.u64.wrap b = (ub : Int) := by rw [IntKind.wrap_u64]; omega
  obtain ⟨q, hq⟩ : ∃ q, q = ua * ub := ⟨_, rfl⟩
  obtain ⟨hi, hhi⟩ : ∃ q', q' = q / 18446744073709551616 := ⟨_, rfl⟩
  obtain ⟨lo, hlo⟩ : ∃ q', q' = q % 18446744073709551616 := ⟨_, rfl⟩
  have hqI : (q : Int) = (ua : Int) * (ub : Int) := by rw [hq]; push_cast; rfl
  have hil : hi < 18446744073709551616 := by
    have : q ≤ 18446744073709551615 * 18446744073709551615 := by rw [hq]; exact Nat.mul_le_mul (by omega) (by omega)
    omega
  have HM : Hid (Calls Tryz.prog 96 #[.int .u64 (ua : Int), .int .u64 (ub : Int)] (w.alloc (.cells #[.int .i64 0, .int .u64 0] 98)) fun e w' => e = .returned (.tuple #[.int .u64 (hi : Int), .int .u64 (lo : Int)]) ∧ w' = w.alloc (.cells #[.int .i64 0, .int .u64 0] 98)) := by
    have := Tryz.bits_Mul64 ua ub hual hubl (w.alloc (.cells #[.int .i64 0, .int .u64 0] 98))
    rw [← hq, ← hhi, ← hlo] at this
    exact this
  -- the four signs: what the high half comes to
  by_cases ha : a < 0
  · by_cases hb : b < 0
    · have e1 : (q : Int) = X + 18446744073709551616 * (a + b) + 18446744073709551616 * 18446744073709551616 := by
        rw [hqI, hX, show (ua : Int) = a + 18446744073709551616 by omega, show (ub : Int) = b + 18446744073709551616 by omega, Int.add_mul, Int.mul_add, Int.mul_add]
        omega
      have s1 : IntKind.i64.wrap (IntKind.u64.wrap (IntKind.u64.wrap ((hi : Int) - (ub : Int)) - (ua : Int))) = X / 18446744073709551616 := by
        simp only [IntKind.wrap_u64, IntKind.wrap_i64]
        omega
      have s2 : (lo : Int) = X % 18446744073709551616 := by omega
      have HS2 := hide s2
      clear hX hXl hua hub hq hhi hlo hqI e1 s2
      go_enter Tryz.func81, Tryz.ntmps81
      go_wp2_with fail
      refine HM.out.mono ?_
      rintro e w' ⟨rfl, rfl⟩
      go_wp2_with fail
      refine bodyPost_ret (v := .agg (wideA X)) (by simp [results, Tryz.results81, go_sem, wideA, HS2.out]) rfl ⟨rfl, ?_⟩
      exact (Below.refl _ _).alloc (Nat.le_refl _) _
    · have e1 : (q : Int) = X + 18446744073709551616 * b := by
        rw [hqI, hX, show (ua : Int) = a + 18446744073709551616 by omega, show (ub : Int) = b by omega, Int.add_mul]
      have s1 : IntKind.i64.wrap (IntKind.u64.wrap ((hi : Int) - (ub : Int))) = X / 18446744073709551616 := by
        simp only [IntKind.wrap_u64, IntKind.wrap_i64]
        omega
      have s2 : (lo : Int) = X % 18446744073709551616 := by omega
      have HS2 := hide s2
      clear hX hXl hua hub hq hhi hlo hqI e1 s2
      go_enter Tryz.func81, Tryz.ntmps81
      go_wp2_with fail
      refine HM.out.mono ?_
      rintro e w' ⟨rfl, rfl⟩
      go_wp2_with fail
      refine bodyPost_ret (v := .agg (wideA X)) (by simp [results, Tryz.results81, go_sem, wideA, HS2.out]) rfl ⟨rfl, ?_⟩
      exact (Below.refl _ _).alloc (Nat.le_refl _) _
  · by_cases hb : b < 0
    · have e1 : (q : Int) = X + 18446744073709551616 * a := by
        rw [hqI, hX, show (ua : Int) = a by omega, show (ub : Int) = b + 18446744073709551616 by omega, Int.mul_add]
        omega
      have s1 : IntKind.i64.wrap (IntKind.u64.wrap ((hi : Int) - (ua : Int))) = X / 18446744073709551616 := by
        simp only [IntKind.wrap_u64, IntKind.wrap_i64]
        omega
      have s2 : (lo : Int) = X % 18446744073709551616 := by omega
      have HS2 := hide s2
      clear hX hXl hua hub hq hhi hlo hqI e1 s2
      go_enter Tryz.func81, Tryz.ntmps81
      go_wp2_with fail
      refine HM.out.mono ?_
      rintro e w' ⟨rfl, rfl⟩
      go_wp2_with fail
      refine bodyPost_ret (v := .agg (wideA X)) (by simp [results, Tryz.results81, go_sem, wideA, HS2.out]) rfl ⟨rfl, ?_⟩
      exact (Below.refl _ _).alloc (Nat.le_refl _) _
    · have e1 : (q : Int) = X := by
        rw [hqI, hX, show (ua : Int) = a by omega, show (ub : Int) = b by omega]
      have s1 : IntKind.i64.wrap (hi : Int) = X / 18446744073709551616 := by
        simp only [IntKind.wrap_i64]
        omega
      have s2 : (lo : Int) = X % 18446744073709551616 := by omega
      have HS2 := hide s2
      clear hX hXl hua hub hq hhi hlo hqI e1 s2
      go_enter Tryz.func81, Tryz.ntmps81
      go_wp2_with fail
      refine HM.out.mono ?_
      rintro e w' ⟨rfl, rfl⟩
      go_wp2_with fail
      refine bodyPost_ret (v := .agg (wideA X)) (by simp [results, Tryz.results81, go_sem, wideA, HS2.out]) rfl ⟨rfl, ?_⟩
      exact (Below.refl _ _).alloc (Nat.le_refl _) _
end Go.Proofs.YticljmgcgjibpaaGreatDoor

/-
  The walks of package value: (wide).plus, fitting. Conditions: numbers far within 128 bits.
-/
namespace Go.Proofs.YticljmgcgjibpaaGreatDoor
open Go.RowKit

theorem run_Add64 (x y : Nat) (w : World) : (callFunc 99 #[.int .u64 (x : Int), .int .u64 (y : Int), .int .u64 0]).run Tryz.prog w = .ok (.value (.tuple #[.int .u64 (((x + y) % 18446744073709551616 : Nat) : Int), .int .u64 (((x + y) / 18446744073709551616 : Nat) : Int)])) w := by
  have h := run_callFunc_extern (w := w) (args := #[.int .u64 (x : Int), .int .u64 (y : Int), .int .u64 0]) Tryz.func99 (by kernel_rfl) (by kernel_rfl) (by kernel_rfl) (e := add64Entry) (by kernel_rfl)
  rw [run_add64 x y 0 (by omega) (by omega) (by omega) (by omega)] at h
  simp only [Result.andThen] at h
  refine h.trans ?_
  congr 5 <;> omega
def wideB (h l : Int) : Array Value := #[.int .i64 h, .int .u64 l]
set_option maxRecDepth 8000 in
set_option maxHeartbeats 1600000 in
theorem wplus_any (X Y : Int) (w : World) (h0 : -42535295865117307932921825928971026432 ≤ X) (h1 : X ≤ 42535295865117307932921825928971026432) (h0' : -42535295865117307932921825928971026432 ≤ Y) (h1' : Y ≤ 42535295865117307932921825928971026432) :
    Calls Tryz.prog 91 #[.agg (wideA X), .agg (wideA Y)] w fun e w' => e = .returned (.agg (wideA (X + Y))) ∧ Below w.heap.size w w' := by
  obtain ⟨x, hx⟩ : ∃ u : Nat, (u : Int) = X % 18446744073709551616 := ⟨(X % 18446744073709551616).toNat, by omega⟩
  obtain ⟨y, hy⟩ : ∃ u : Nat, (u : Int) = Y % 18446744073709551616 := ⟨(Y % 18446744073709551616).toNat, by omega⟩
  obtain ⟨p, hp⟩ : ∃ p, p = X / 18446744073709551616 := ⟨_, rfl⟩
  obtain ⟨q, hq⟩ : ∃ p, p = Y / 18446744073709551616 := ⟨_, rfl⟩
  have hr := run_Add64 x y
  obtain ⟨lo, hlo⟩ : ∃ l, l = (x + y) % 18446744073709551616 := ⟨_, rfl⟩
  obtain ⟨c, hc⟩ : ∃ l, l = (x + y) / 18446744073709551616 := ⟨_, rfl⟩
  rw [← hlo, ← hc] at hr
  have hcl : c ≤ 1 := by omega
  have s1 : IntKind.i64.wrap (c : Int) = (c : Int) := IntWalk.i64_in _ (by omega)
  have HS : Hid (wideA (X + Y) = #[.int .i64 (p + q + (c : Int)), .int .u64 (lo : Int)]) := by
    show _ = _
    unfold wideA
    rw [show (X + Y) / 18446744073709551616 = p + q + (c : Int) by omega, show (X + Y) % 18446744073709551616 = (lo : Int) by omega]
  have hpl : -2305843009213693952 ≤ p ∧ p ≤ 2305843009213693952 := by omega
  have hql : -2305843009213693952 ≤ q ∧ q ≤ 2305843009213693952 := by omega
  obtain ⟨hp1, hp2⟩ := hpl
  obtain ⟨hq1, hq2⟩ := hql
  unfold wideA
  rw [← hx, ← hy, ← hp, ← hq]
  have HS2 : Hid (#[Value.int .i64 ((X + Y) / 18446744073709551616), Value.int .u64 ((X + Y) % 18446744073709551616)] = #[.int .i64 (p + q + (c : Int)), .int .u64 (lo : Int)]) := HS.out
  rw [HS2.out]
  clear hx hy hp hq hlo hc HS HS2 h0 h1 h0' h1'
  go_enter Tryz.func91, Tryz.ntmps91
  go_wp2_with fail
  refine bodyPost_ret (v := .agg #[.int .i64 (p + q + (c : Int)), .int .u64 (lo : Int)]) (by simp [results, Tryz.results91, go_sem]) rfl ⟨rfl, ?_⟩
  exact (((Below.refl _ _).alloc (Nat.le_refl _) _).alloc (by simp) _).alloc (by simp; omega) _

set_option maxRecDepth 8000 in
set_option maxHeartbeats 1600000 in
theorem fitting_any (k : UInt8) (ki : Int) (hk : ki = (k.toNat : Int)) (X : Int) (w : World) (h0 : -85070591730234615865843651857942052864 ≤ X) (h1 : X ≤ 85070591730234615865843651857942052864) :
    Calls Tryz.prog 80 #[.int .u8 ki, .agg (wideA X)] w fun e w' => e = .returned (ansV (Val.answer k X)) ∧ Below w.heap.size w w' := by
  subst hk
  obtain ⟨p, hp⟩ : ∃ p, p = Val.answer k X := ⟨_, rfl⟩
  rw [← hp]
  unfold Val.answer Val.fit at hp
  have HP := hide hp
  clear hp
  obtain ⟨m, hm⟩ : ∃ m, m = IntKind.i64.wrap (X % 18446744073709551616) := ⟨_, rfl⟩
  have hm' := hm
  rw [IntKind.wrap_i64] at hm'
  have s1 : IntKind.i64.wrap (X % 18446744073709551616) = m := hm.symm
  obtain ⟨hi, hhi⟩ : ∃ h, h = X / 18446744073709551616 := ⟨_, rfl⟩
  have hfit : (hi = m / 9223372036854775808) ↔ (-9223372036854775808 ≤ X ∧ X ≤ 9223372036854775807) := by omega
  have hmX : (-9223372036854775808 ≤ X ∧ X ≤ 9223372036854775807) → m = X := by omega
  have hml : -9223372036854775808 ≤ m ∧ m ≤ 9223372036854775807 := by omega
  obtain ⟨hm1, hm2⟩ := hml
  unfold wideA
  rw [← hhi]
  by_cases hf : -9223372036854775808 ≤ X ∧ X ≤ 9223372036854775807
  · have HF : Hid (p = (⟨k, m, ⟨#[]⟩⟩, 0)) := by
      show _ = _
      rw [HP.out, if_pos hf, hmX hf]
    have t1 : (hi != m / 9223372036854775808) = false := by rw [bne_eq_false_iff_eq]; exact hfit.2 hf
    clear hm hm' hhi hfit hmX hf h0 h1 HP
    go_enter Tryz.func80, Tryz.ntmps80
    go_wp2_with fail
    refine bodyPost_ret (v := ansV p) (by rw [HF.out]; simp [results, Tryz.results80, go_sem, ansV, valV]) rfl ⟨rfl, ?_⟩
    exact ((Below.refl _ _).alloc (Nat.le_refl _) _).alloc (by simp) _
  · have HF : Hid (p = (Val.vz, 271)) := by
      show _ = _
      rw [HP.out, if_neg hf]
    have t1 : (hi != m / 9223372036854775808) = true := by rw [bne_iff_ne]; exact fun h => hf (hfit.1 h)
    clear hm hm' hhi hfit hmX hf h0 h1 HP
    go_enter Tryz.func80, Tryz.ntmps80
    go_wp2_with fail
    refine bodyPost_ret (v := ansV p) (by rw [HF.out]; simp [results, Tryz.results80, go_sem, ansV, valV, Val.vz]) rfl ⟨rfl, ?_⟩
    exact ((Below.refl _ _).alloc (Nat.le_refl _) _).alloc (by simp) _
end Go.Proofs.YticljmgcgjibpaaGreatDoor

/-
  The walk of value.common. Conditions: none.
-/
namespace Go.Proofs.YticljmgcgjibpaaGreatDoor
open Go.RowKit

/-- The kind of what two values are put together to; the error. -/
def commonOf (a b : Cell.Val) : Nat × Nat := if (Val.asked a b).2 ≠ 0 ∨ (Val.asked a b).1 = true then (0, (Val.asked a b).2) else (max a.k.toNat b.k.toNat, 0)
def comV (p : Nat × Nat) : Value := .tuple #[.int .u8 ((p.1 : Nat) : Int), .int .i64 ((p.2 : Nat) : Int)]
theorem V2.alloc {w wr : World} {k : UInt8} {n : Int} {s : ByteArray} {k' : UInt8} {n' : Int} {s' : ByteArray} (h : V2 w wr k n s k' n' s') (o : Obj) : V2 w (wr.alloc o) k n s k' n' s' := h.below ((Below.refl _ _).alloc (Nat.le_refl _) o)
set_option maxRecDepth 8000 in
set_option maxHeartbeats 3200000 in
theorem common_any (k : UInt8) (n : Int) (s : ByteArray) (k' : UInt8) (n' : Int) (s' : ByteArray) (w : World) :
    Calls Tryz.prog 79 #[.agg #[.int .u8 (k.toNat : Int), .int .i64 n, .string s], .agg #[.int .u8 (k'.toNat : Int), .int .i64 n', .string s']] w fun e w' => e = .returned (comV (commonOf ⟨k, n, s⟩ ⟨k', n', s'⟩)) ∧ Below w.heap.size w w' := by
  have HN := hide (V2.new w k n s k' n' s')
  obtain ⟨p, hp⟩ : ∃ p, p = commonOf ⟨k, n, s⟩ ⟨k', n', s'⟩ := ⟨_, rfl⟩
  rw [← hp]
  unfold commonOf Val.asked Val.bothRight at hp
  have HP := hide hp
  clear hp
  go_enter Tryz.func79, Tryz.ntmps79
  go_wp2_with fail
  obtain ⟨w0, hw0⟩ : ∃ x, x = (w.alloc (.cells #[.int .u8 (k.toNat : Int), .int .i64 n, .string s] 25)).alloc (.cells #[.int .u8 (k'.toNat : Int), .int .i64 n', .string s'] 25) := ⟨_, rfl⟩
  rw [← hw0] at HN ⊢
  clear hw0
  with_reducible refine (right_any k n s w0).mono ?_
  rintro e w1 ⟨rfl, hb1⟩
  replace HN := hide (HN.out.below hb1)
  clear hb1
  obtain ⟨ra, hra⟩ : ∃ r, r = Cell.rightB ⟨k, n, s⟩ := ⟨_, rfl⟩
  obtain ⟨rb, hrb⟩ : ∃ r, r = Cell.rightB ⟨k', n', s'⟩ := ⟨_, rfl⟩
  rw [← hra, ← hrb] at HP
  rw [← hra]
  have HRB := hide hrb
  clear hra hrb
  cases ra with
  | false =>
    have HF : Hid (p = (0, 2)) := HP.out
    go_wp2_with fail
    go_ret2
    exact ⟨by rw [HF.out]; rfl, HN.out.2.2⟩
  | true =>
    obtain ⟨b0, b1, b2⟩ := HN.out.2.1.c3
    go_wp2_with fail
    clear b0 b1 b2
    with_reducible refine (right_any k' n' s' w1).mono ?_
    rintro e w2 ⟨rfl, hb2⟩
    replace HN := hide (HN.out.below hb2)
    clear hb2
    rw [← HRB.out]
    cases rb with
    | false =>
      have HF : Hid (p = (0, 2)) := HP.out
      go_wp2_with fail
      go_ret2
      exact ⟨by rw [HF.out]; rfl, HN.out.2.2⟩
    | true =>
      obtain ⟨xa, hxa⟩ : ∃ x, x = Val.wrongKind ⟨k, n, s⟩ := ⟨_, rfl⟩
      obtain ⟨xb, hxb⟩ : ∃ x, x = Val.wrongKind ⟨k', n', s'⟩ := ⟨_, rfl⟩
      rw [← hxa, ← hxb] at HP
      have HXA := hide hxa
      have HXB := hide hxb
      clear hxa hxb
      unfold Val.wrongKind at HXA HXB
      simp only at HXA HXB
      obtain ⟨a0, a1, a2⟩ := HN.out.1.c3
      obtain ⟨b0, b1, b2⟩ := HN.out.2.1.c3
      have i0 : ∀ w : World, (Instr.index 114 (.agg #[.int .u8 (k.toNat : Int), .int .i64 n, .string s, .int .u8 (k'.toNat : Int), .int .i64 n', .string s']) (.int .i64 0)).run Tryz.prog w = .ok (.agg #[.int .u8 (k.toNat : Int), .int .i64 n, .string s]) w := fun _ => by kernel_rfl
      have i1 : ∀ w : World, (Instr.index 114 (.agg #[.int .u8 (k.toNat : Int), .int .i64 n, .string s, .int .u8 (k'.toNat : Int), .int .i64 n', .string s']) (.int .i64 1)).run Tryz.prog w = .ok (.agg #[.int .u8 (k'.toNat : Int), .int .i64 n', .string s']) w := fun _ => by kernel_rfl
      go_wp2_with fail
      clear a0 a1 a2 b0 b1 b2
      go_loopw [19] (fun i wr => ∃ j : Nat, i = .int .i64 (j : Nat) ∧ V2 w wr k n s k' n' s' ∧ (j = 0 ∨ (j = 1 ∧ xa = false) ∨ (j = 2 ∧ xa = false ∧ xb = false))) (fun i _ => 2 - (intOf i).toNat)
      case atStart => exact ⟨0, rfl, HN.out, .inl rfl⟩
      case round =>
        obtain ⟨j, rfl, hv, hj⟩ := hrel
        clear HN
        have HN := hide hv
        clear hv
        rcases hj with rfl | ⟨rfl, hxa⟩ | ⟨rfl, hxa, hxb⟩
        · rw [show ((0 : Nat) : Int) = 0 from rfl]
          by_cases hk : k.toNat = 0
          · have tk : ((k.toNat : Int) != 0) = false := by simp; omega
            have HX0 : Hid (xa = false) := by
              have := HXA.out
              rw [decide_eq_true hk] at this
              exact this
            clear hk
            go_wp2_with fail
            go_roundw
            case rel => exact ⟨1, by go_num, HN.out.alloc _, .inr (.inl ⟨rfl, HX0.out⟩)⟩
            case measure => simp [intOf]
          · have tk : ((k.toNat : Int) != 0) = true := by simp; omega
            go_wp2_with fail
            with_reducible refine (number_any k _ rfl _).mono ?_
            rintro e w' ⟨rfl, rfl⟩
            cases hnb : Val.numB k with
            | true =>
              have HX0 : Hid (xa = false) := by
                have := HXA.out
                rw [hnb, decide_eq_false hk] at this
                exact this
              clear hk hnb
              go_wp2_with fail
              go_roundw
              case rel => exact ⟨1, by go_num, HN.out.alloc _, .inr (.inl ⟨rfl, HX0.out⟩)⟩
              case measure => simp [intOf]
            | false =>
              have hx1 : xa = true := by
                have := HXA.out
                rw [hnb, decide_eq_false hk] at this
                exact this
              have HF : Hid (p = (0, 270)) := by
                have := HP.out
                rw [hx1] at this
                show _ = _
                simpa using this
              clear hk hnb hx1
              go_wp2_with fail
              go_ret2
              exact ⟨by rw [HF.out]; rfl, (HN.out.alloc _).2.2⟩
        · have HXa := hide hxa
          clear hxa
          rw [show ((1 : Nat) : Int) = 1 from rfl]
          by_cases hk : k'.toNat = 0
          · have tk : ((k'.toNat : Int) != 0) = false := by simp; omega
            have HX0 : Hid (xb = false) := by
              have := HXB.out
              rw [decide_eq_true hk] at this
              exact this
            clear hk
            go_wp2_with fail
            go_roundw
            case rel => exact ⟨2, by go_num, HN.out.alloc _, .inr (.inr ⟨rfl, HXa.out, HX0.out⟩)⟩
            case measure => simp [intOf]
          · have tk : ((k'.toNat : Int) != 0) = true := by simp; omega
            go_wp2_with fail
            with_reducible refine (number_any k' _ rfl _).mono ?_
            rintro e w' ⟨rfl, rfl⟩
            cases hnb : Val.numB k' with
            | true =>
              have HX0 : Hid (xb = false) := by
                have := HXB.out
                rw [hnb, decide_eq_false hk] at this
                exact this
              clear hk hnb
              go_wp2_with fail
              go_roundw
              case rel => exact ⟨2, by go_num, HN.out.alloc _, .inr (.inr ⟨rfl, HXa.out, HX0.out⟩)⟩
              case measure => simp [intOf]
            | false =>
              have hx1 : xb = true := by
                have := HXB.out
                rw [hnb, decide_eq_false hk] at this
                exact this
              have HF : Hid (p = (0, 270)) := by
                have := HP.out
                rw [hx1] at this
                show _ = _
                simpa using this
              clear hk hnb hx1
              go_wp2_with fail
              go_ret2
              exact ⟨by rw [HF.out]; rfl, (HN.out.alloc _).2.2⟩
        · have HP1 : Hid (p = if (decide (k.toNat = 0) || decide (k'.toNat = 0)) = true then (0, 0) else (max k.toNat k'.toNat, 0)) := by
            have := HP.out
            rw [hxa, hxb] at this
            show _ = _
            simpa using this
          clear hxa hxb HP i0 i1
          rw [show ((2 : Nat) : Int) = 2 from rfl]
          obtain ⟨a0, a1, a2⟩ := HN.out.1.c3
          obtain ⟨b0, b1, b2⟩ := HN.out.2.1.c3
          by_cases hk : k.toNat = 0
          · have tk : ((k.toNat : Int) == 0) = true := by simp; omega
            have HF : Hid (p = (0, 0)) := HP1.out.trans (if_pos (by simp [hk]))
            clear hk
            go_wp2_with fail
            go_ret2
            exact ⟨by rw [HF.out]; rfl, HN.out.2.2⟩
          · have tk : ((k.toNat : Int) == 0) = false := by simp; omega
            by_cases hk' : k'.toNat = 0
            · have tk' : ((k'.toNat : Int) == 0) = true := by simp; omega
              have HF : Hid (p = (0, 0)) := HP1.out.trans (if_pos (by simp [hk']))
              clear hk hk'
              go_wp2_with fail
              go_ret2
              exact ⟨by rw [HF.out]; rfl, HN.out.2.2⟩
            · have tk' : ((k'.toNat : Int) == 0) = false := by simp; omega
              have HF : Hid (p = (max k.toNat k'.toNat, 0)) := HP1.out.trans (if_neg (by simp [hk, hk']))
              clear hk hk'
              go_wp2_with fail
              go_ret2
              refine ⟨?_, HN.out.2.2⟩
              rw [HF.out]
              show Ending.returned (.tuple #[.int .u8 (max (k.toNat : Int) (k'.toNat : Int)), .int .i64 0]) = .returned (.tuple #[.int .u8 ((max k.toNat k'.toNat : Nat) : Int), .int .i64 ((0 : Nat) : Int)])
              rw [show ((max k.toNat k'.toNat : Nat) : Int) = max (k.toNat : Int) (k'.toNat : Int) by omega]
              rfl
end Go.Proofs.YticljmgcgjibpaaGreatDoor
