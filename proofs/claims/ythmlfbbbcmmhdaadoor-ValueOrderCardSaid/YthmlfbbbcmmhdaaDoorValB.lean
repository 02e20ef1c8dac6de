/-
  The walks of package value: (wide).plus, fitting. Conditions: numbers far within 128 bits.
-/
import Derived.Test.YthmlfbbbcmmhdaaDoorValA
namespace Go.Proofs.YthmlfbbbcmmhdaaDoor
open Go.RowKit

theorem run_Add64 (x y : Nat) (w : World) : (callFunc 96 #[.int .u64 (x : Int), .int .u64 (y : Int), .int .u64 0]).run Tryd.prog w = .ok (.value (.tuple #[.int .u64 (((x + y) % 18446744073709551616 : Nat) : Int), .int .u64 (((x + y) / 18446744073709551616 : Nat) : Int)])) w := by
  have h := run_callFunc_extern (w := w) (args := #[.int .u64 (x : Int), .int .u64 (y : Int), .int .u64 0]) Tryd.func96 (by kernel_rfl) (by kernel_rfl) (by kernel_rfl) (e := add64Entry) (by kernel_rfl)
  rw [run_add64 x y 0 (by omega) (by omega) (by omega) (by omega)] at h
  simp only [Result.andThen] at h
  refine h.trans ?_
  congr 5 <;> omega
def wideB (h l : Int) : Array Value := #[.int .i64 h, .int .u64 l]
set_option maxRecDepth 8000 in
set_option maxHeartbeats 1600000 in
theorem wplus_any (X Y : Int) (w : World) (h0 : -42535295865117307932921825928971026432 ≤ X) (h1 : X ≤ 42535295865117307932921825928971026432) (h0' : -42535295865117307932921825928971026432 ≤ Y) (h1' : Y ≤ 42535295865117307932921825928971026432) :
    Calls Tryd.prog 80 #[.agg (wideA X), .agg (wideA Y)] w fun e w' => e = .returned (.agg (wideA (X + Y))) ∧ Below w.heap.size w w' := by
  obtain ⟨x, hx⟩ : ∃ u : Nat, (u : Int) = X % 18446744073709551616 := ⟨(X % 18446744073709551616).toNat, by omega⟩
  obtain ⟨y, hy⟩ : ∃ u : Nat, (u : Int) = Y % 18446744073709551616 := ⟨(Y % 18446744073709551616).toNat, by omega⟩
  obtain ⟨p, hp⟩ : ∃ p, p = X / 18446744073709551616 := ⟨_, rfl⟩
  obtain ⟨q, hq⟩ : ∃ p, p = Y / 18446744073709551616 := ⟨_, rfl⟩
  have hr := run_Add64 x y
  obtain ⟨lo, hlo⟩ : ∃ l, l = (x + y) % 18446744073709551616 := ⟨_, rfl⟩
  obtain ⟨c, hc⟩ : ∃ l, l = (x + y) / 18446744073709551616 := ⟨_, rfl⟩
  rw [← hlo, ← hc] at hr
  have hcl : c ≤ 1 := by omega
  have s1 : IntKind.i64.wrap (c : Int) = (c : Int) := IntWalk.i64_in _ (by omega)
  have HS : Hid (wideA (X + Y) = #[.int .i64 (p + q + (c : Int)), .int .u64 (lo : Int)]) := by
    show _ = _
    unfold wideA
    rw [show (X + Y) / 18446744073709551616 = p + q + (c : Int) by omega, show (X + Y) % 18446744073709551616 = (lo : Int) by omega]
  have hpl : -2305843009213693952 ≤ p ∧ p ≤ 2305843009213693952 := by omega
  have hql : -2305843009213693952 ≤ q ∧ q ≤ 2305843009213693952 := by omega
  obtain ⟨hp1, hp2⟩ := hpl
  obtain ⟨hq1, hq2⟩ := hql
  unfold wideA
  rw [← hx, ← hy, ← hp, ← hq]
  have HS2 : Hid (#[Value.int .i64 ((X + Y) / 18446744073709551616), Value.int .u64 ((X + Y) % 18446744073709551616)] = #[.int .i64 (p + q + (c : Int)), .int .u64 (lo : Int)]) := HS.out
  rw [HS2.out]
  clear hx hy hp hq hlo hc HS HS2 h0 h1 h0' h1'
  go_enter Tryd.func80, Tryd.ntmps80
  go_wp2_with fail
  refine bodyPost_ret (v := .agg #[.int .i64 (p + q + (c : Int)), .int .u64 (lo : Int)]) (by simp [results, Tryd.results80, go_sem]) rfl ⟨rfl, ?_⟩
  exact (((Below.refl _ _).alloc (Nat.le_refl _) _).alloc (by simp) _).alloc (by simp; omega) _

set_option maxRecDepth 8000 in
set_option maxHeartbeats 1600000 in
theorem fitting_any (k : UInt8) (ki : Int) (hk : ki = (k.toNat : Int)) (X : Int) (w : World) (h0 : -85070591730234615865843651857942052864 ≤ X) (h1 : X ≤ 85070591730234615865843651857942052864) :
    Calls Tryd.prog 59 #[.int .u8 ki, .agg (wideA X)] w fun e w' => e = .returned (ansV (Val.answer k X)) ∧ Below w.heap.size w w' := by
  subst hk
  obtain ⟨p, hp⟩ : ∃ p, p = Val.answer k X := ⟨_, rfl⟩
  rw [← hp]
  unfold Val.answer Val.fit at hp
  have HP := hide hp
  clear hp
  obtain ⟨m, hm⟩ : ∃ m, m = IntKind.i64.wrap (X % 18446744073709551616) := ⟨_, rfl⟩
  have hm' := hm
  rw [IntKind.wrap_i64] at hm'
  have s1 : IntKind.i64.wrap (X % 18446744073709551616) = m := hm.symm
  obtain ⟨hi, hhi⟩ : ∃ h, h = X / 18446744073709551616 := ⟨_, rfl⟩
  have hfit : (hi = m / 9223372036854775808) ↔ (-9223372036854775808 ≤ X ∧ X ≤ 9223372036854775807) := by omega
  have hmX : (-9223372036854775808 ≤ X ∧ X ≤ 9223372036854775807) → m = X := by omega
  have hml : -9223372036854775808 ≤ m ∧ m ≤ 9223372036854775807 := by omega
  obtain ⟨hm1, hm2⟩ := hml
  unfold wideA
  rw [← hhi]
  by_cases hf : -9223372036854775808 ≤ X ∧ X ≤ 9223372036854775807
  · have HF : Hid (p = (⟨k, m, ⟨#[]⟩⟩, 0)) := by
      show _ = _
      rw [HP.out, if_pos hf, hmX hf]
    have t1 : (hi != m / 9223372036854775808) = false := by rw [bne_eq_false_iff_eq]; exact hfit.2 hf
    clear hm hm' hhi hfit hmX hf h0 h1 HP
    go_enter Tryd.func59, Tryd.ntmps59
    go_wp2_with fail
    refine bodyPost_ret (v := ansV p) (by rw [HF.out]; simp [results, Tryd.results59, go_sem, ansV, valV]) rfl ⟨rfl, ?_⟩
    exact ((Below.refl _ _).alloc (Nat.le_refl _) _).alloc (by simp) _
  · have HF : Hid (p = (Val.vz, 271)) := by
      show _ = _
      rw [HP.out, if_neg hf]
    have t1 : (hi != m / 9223372036854775808) = true := by rw [bne_iff_ne]; exact fun h => hf (hfit.1 h)
    clear hm hm' hhi hfit hmX hf h0 h1 HP
    go_enter Tryd.func59, Tryd.ntmps59
    go_wp2_with fail
    refine bodyPost_ret (v := ansV p) (by rw [HF.out]; simp [results, Tryd.results59, go_sem, ansV, valV, Val.vz]) rfl ⟨rfl, ?_⟩
    exact ((Below.refl _ _).alloc (Nat.le_refl _) _).alloc (by simp) _
end Go.Proofs.YthmlfbbbcmmhdaaDoor
