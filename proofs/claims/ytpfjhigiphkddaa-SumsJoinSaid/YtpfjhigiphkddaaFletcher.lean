/-
  The walks of Fletcher, the program's and the reference's: what both compute. Conditions: the slice reads as a list of bytes; it has at most 2^47 bytes.
-/
import Derived.Test.YtpfjhigiphkddaaRows
import Derived.Test.YtpfjhigiphkddaaMem
import Derived.Test.YtpfjhigiphkddaaSumsMath
namespace Go.Proofs.Ytpfjhigiphkddaa
open Go.RowKit

/-! ### Fletcher -/
theorem drop_two (l : List UInt8) (k : Nat) (x y : UInt8) (hx : l[k]? = some x) (hy : l[k + 1]? = some y) : l.drop k = x :: y :: l.drop (k + 2) := by
  obtain ⟨h1, rfl⟩ := List.getElem?_eq_some_iff.1 hx
  obtain ⟨h2, rfl⟩ := List.getElem?_eq_some_iff.1 hy
  rw [List.drop_eq_getElem_cons h1, List.drop_eq_getElem_cons h2]
theorem drop_one (l : List UInt8) (k : Nat) (x : UInt8) (hx : l[k]? = some x) (hn : l.length = k + 1) : l.drop k = [x] := by
  obtain ⟨h1, rfl⟩ := List.getElem?_eq_some_iff.1 hx
  rw [List.drop_eq_getElem_cons h1, List.drop_eq_nil_of_le (by omega)]
theorem or8 (x y : Nat) (hx : x < 256) (hy : y < 256) : bits .or .u32 (x : Int) ((y : Int) * 256) = (x : Int) + 256 * y := by
  have := u32_or_nat x (y * 256) (by omega) (by omega)
  rw [Nat.or_comm, nat_join 8 (y * 256) x (by omega) (by omega)] at this
  rw [show ((y : Int) * 256) = ((y * 256 : Nat) : Int) by omega, this]
  omega

theorem or16 (a b : Nat) (ha : a < 65535) (hb : b < 65535) : bits .or .u32 ((b : Int) * 65536) (a : Int) = 65536 * (b : Int) + a := by
  have := u32_or_nat (b * 65536) a (by omega) (by omega)
  rw [nat_join 16 (b * 65536) a (by omega) (by omega)] at this
  rw [show ((b : Int) * 65536) = ((b * 65536 : Nat) : Int) by omega, this]
  omega
theorem flet_end (l : List UInt8) (k a b : Nat) (hk : l.length ≤ k) (h : Sums.flet (l.drop k) a b = Sums.flet l 0 0) : Sums.fletcher l = 65536 * b + a := by
  rw [List.drop_eq_nil_of_le hk, Sums.flet] at h
  rw [Sums.fletcher, ← h]

set_option maxHeartbeats 400000 in
theorem fletcher_any (A : Option Addr) (n c : Nat) (l : List UInt8) (w : World) (hl : Rb w w.heap.size A n l) (hn : n ≤ 140737488355328) :
    Calls Try.prog 9 #[.slice A n c] w fun e w' => e = .returned (.int .u32 (Sums.fletcher l : Nat)) ∧ w = w' := by
  have HL := hide hl
  clear hl
  go_enter Try.func9, Try.ntmps9
  go_wp2
  go_loop [3, 4, 5] (fun fi se i => ∃ k a b : Nat, k ≤ n + 1 ∧ i = .int .i64 k ∧ fi = .int .u32 a ∧ se = .int .u32 b ∧ a < 65535 ∧ b < 65535 ∧ Hid (Sums.flet (l.drop k) a b = Sums.flet l 0 0)) (fun _ _ i => n + 1 - (intOf i).toNat)
  case atStart => exact ⟨0, 0, 0, Nat.zero_le _, rfl, rfl, rfl, by omega, by omega, rfl⟩
  case round =>
    obtain ⟨k, a, b, hk, rfl, rfl, rfl, ha, hb, HF⟩ := hrel
    by_cases hlt : k < n
    · obtain ⟨blk, off, ch, rfl, hbk, hch, hcell⟩ := HL.out.at hlt
      have hb8 := ch.toNat_lt
      have HC := hide hch
      clear hch
      by_cases hlt2 : k + 1 < n
      · obtain ⟨blk', off', dh, e', _, hdh, hcell2⟩ := HL.out.at hlt2
        injection e' with e'
        injection e' with e1 e2
        subst e1 e2
        have hd8 := dh.toNat_lt
        have HD := hide (drop_two l k ch dh HC.out hdh)
        clear hdh
        have hor := or8 ch.toNat dh.toNat hb8 hd8
        go_wp2
        go_round
        case rel => exact ⟨k + 2, (a + (ch.toNat + 256 * dh.toNat)) % 65535, (b + (a + (ch.toNat + 256 * dh.toNat)) % 65535) % 65535, by omega, by go_num, int_eq (by omega), int_eq (by omega), by omega, by omega, by
          have h := HF.out
          rw [HD.out, Sums.flet] at h
          exact h⟩
        case measure => simp [intOf]; omega
      · have HD := hide (drop_one l k ch HC.out (by rw [HL.out.len]; omega))
        go_wp2
        go_round
        case rel => exact ⟨k + 2, (a + ch.toNat) % 65535, (b + (a + ch.toNat) % 65535) % 65535, by omega, by go_num, int_eq (by omega), int_eq (by omega), by omega, by omega, by
          have h := HF.out
          rw [HD.out, Sums.flet] at h
          rw [List.drop_eq_nil_of_le (by rw [HL.out.len]; omega)]
          exact h⟩
        case measure => simp [intOf]; omega
    · have HE := hide (flet_end l k a b (by rw [HL.out.len]; omega) HF.out)
      clear HF
      have hor := or16 a b ha hb
      go_wp2
      go_ret
      refine ⟨ret_int ?_, rfl⟩
      rw [HE.out]
      omega

set_option maxHeartbeats 400000 in
theorem refFletcher_any (A : Option Addr) (n c : Nat) (l : List UInt8) (w : World) (hl : Rb w w.heap.size A n l) (hn : n ≤ 140737488355328) :
    Calls Try.prog 13 #[.slice A n c] w fun e w' => e = .returned (.int .u32 (Sums.fletcher l : Nat)) ∧ w = w' := by
  have HL := hide hl
  clear hl
  go_enter Try.func13, Try.ntmps13
  go_wp2
  go_loop [3, 4, 5] (fun fi se i => ∃ k a b : Nat, k ≤ n + 1 ∧ i = .int .i64 k ∧ fi = .int .i64 a ∧ se = .int .i64 b ∧ a < 65535 ∧ b < 65535 ∧ Hid (Sums.flet (l.drop k) a b = Sums.flet l 0 0)) (fun _ _ i => n + 1 - (intOf i).toNat)
  case atStart => exact ⟨0, 0, 0, Nat.zero_le _, rfl, rfl, rfl, by omega, by omega, rfl⟩
  case round =>
    obtain ⟨k, a, b, hk, rfl, rfl, rfl, ha, hb, HF⟩ := hrel
    by_cases hlt : k < n
    · obtain ⟨blk, off, ch, rfl, hbk, hch, hcell⟩ := HL.out.at hlt
      have hb8 := ch.toNat_lt
      have HC := hide hch
      clear hch
      by_cases hlt2 : k + 1 < n
      · obtain ⟨blk', off', dh, e', _, hdh, hcell2⟩ := HL.out.at hlt2
        injection e' with e'
        injection e' with e1 e2
        subst e1 e2
        have hd8 := dh.toNat_lt
        have HD := hide (drop_two l k ch dh HC.out hdh)
        clear hdh
        go_wp2
        go_round
        case rel => exact ⟨k + 2, (a + (ch.toNat + 256 * dh.toNat)) % 65535, (b + (a + (ch.toNat + 256 * dh.toNat)) % 65535) % 65535, by omega, by go_num, int_eq (by omega), int_eq (by omega), by omega, by omega, by
          have h := HF.out
          rw [HD.out, Sums.flet] at h
          exact h⟩
        case measure => simp [intOf]; omega
      · have HD := hide (drop_one l k ch HC.out (by rw [HL.out.len]; omega))
        go_wp2
        go_round
        case rel => exact ⟨k + 2, (a + ch.toNat) % 65535, (b + (a + ch.toNat) % 65535) % 65535, by omega, by go_num, int_eq (by omega), int_eq (by omega), by omega, by omega, by
          have h := HF.out
          rw [HD.out, Sums.flet] at h
          rw [List.drop_eq_nil_of_le (by rw [HL.out.len]; omega)]
          exact h⟩
        case measure => simp [intOf]; omega
    · have HE := hide (flet_end l k a b (by rw [HL.out.len]; omega) HF.out)
      clear HF
      go_wp2
      go_ret
      refine ⟨ret_int ?_, rfl⟩
      rw [HE.out]
      omega

end Go.Proofs.Ytpfjhigiphkddaa
