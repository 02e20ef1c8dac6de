/-
  The walks of cell.number, chanceryref18.eight, value.Right and chanceryref17.Right. Conditions: the bytes are a row of the call's own.
-/
import Derived.Test.YtnieenlnpnaamaaKit
import Derived.Test.YtnieenlnpnaamaaCellMath
namespace Go.Proofs.Ytnieenlnpnaamaa
open Go.RowKit

theorem be8_at (u k : Nat) (h : k < 8) : (Cell.be8 u)[k]? = some (Cell.byteOf (u / 2 ^ (56 - 8 * k))) := by
  match k, h with
  | 0, _ => rfl
  | 1, _ => rfl
  | 2, _ => rfl
  | 3, _ => rfl
  | 4, _ => rfl
  | 5, _ => rfl
  | 6, _ => rfl
  | 7, _ => show some (Cell.byteOf u) = some (Cell.byteOf (u / 2 ^ 0)); rw [Nat.pow_zero, Nat.div_one]
theorem shr_byte (u j : Nat) : #[Value.int .u8 ((u : Int) / 2 ^ j % 256)] = ([Cell.byteOf (u / 2 ^ j)].map B8).toArray := by
  have : ((u : Int) / 2 ^ j % 256) = ((Cell.byteOf (u / 2 ^ j)).toNat : Int) := by
    rw [Cell.byteOf_toNat]
    have h2 : ((2 : Int) ^ j) = ((2 ^ j : Nat) : Int) := by simp
    rw [h2, ← Int.natCast_ediv]
    exact (Int.natCast_emod _ 256).symm
  rw [this]
  rfl

theorem number_any (base : Nat) (v : Value) (m : Nat) (l : List UInt8) (u : Nat) (w : World) (hown : w.ownsRow base 5 1 v m (l.map B8)) (hm : m ≤ 1000000) (hbase : base ≤ w.heap.size) :
    Calls Try.prog 49 #[v, .int .u64 (u : Int)] w fun e w' => ∃ v', e = .returned v' ∧ w'.ownsRow base 5 1 v' (m + 8) ((l ++ Cell.be8 u).map B8) ∧ Below base w w' := by
  have HO := hide hown
  clear hown
  go_enter Try.func49, Try.ntmps49
  go_wp2_with fail
  go_loopw [0, 6] (fun s i wr => ∃ k : Nat, k ≤ 8 ∧ i = .int .i64 (k : Nat) ∧ wr.ownsRow base 5 1 s (m + k) ((l ++ (Cell.be8 u).take k).map B8) ∧ Below base w wr) (fun _ i _ => 8 - (intOf i).toNat)
  case atStart => exact ⟨0, Nat.zero_le _, rfl, by simpa using HO.out, Below.refl _ _⟩
  case round =>
    obtain ⟨k, hk, rfl, hown, hbel⟩ := hrel
    have HO1 := hide hown
    have HB := hide hbel
    have hsz := hbel.size
    clear hown hbel
    by_cases hlt : k < 8
    · have c1 : (0 : Int) ≤ 56 - 8 * (k : Int) := by omega
      have HE := hide (take_snoc (Cell.be8 u) k _ (be8_at u k hlt))
      have HC := hide (shr_byte u (56 - 8 * k))
      go_wp2_with (at_builtin; refine wpList_appL bt rfl (.tmp 9) (.tmp 16) rfl base _ (m + k) (l ++ (Cell.be8 u).take k) rfl HO1.out _ 1 1 [Cell.byteOf (u / 2 ^ (56 - 8 * k))] rfl rfl rfl HC.out (by omega) (by omega) ?_; intro v3 w3 hown3 hb3 _; have HO3 := hide hown3; have HB3 := hide (HB.out.trans hb3); clear hown3 hb3)
      go_roundw
      case rel => exact ⟨k + 1, by omega, by go_num, by rw [← HE.out, ← List.append_assoc]; exact HO3.out, HB3.out⟩
      case measure => simp [intOf]; omega
    · obtain rfl : k = 8 := by omega
      obtain ⟨A1, c1, rfl⟩ := own_sl HO1.out
      go_wp2_with fail
      go_ret
      exact ⟨_, rfl, HO1.out, HB.out⟩
end Go.Proofs.Ytnieenlnpnaamaa
