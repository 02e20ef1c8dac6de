/-
  The walks of package sums and of its reference: what Crc, More and Fletcher compute. Conditions: none but that the slice reads as a list of bytes.
-/
import Derived.Test.YtpfjhigiphkddaaRows
import Derived.Test.YtpfjhigiphkddaaMem
import Derived.Test.YtpfjhigiphkddaaSumsMath
namespace Go.Proofs.Ytpfjhigiphkddaa
open Go.RowKit

theorem and1 (r : Nat) (h : r < 4294967296) : bits .and .u32 (r : Int) 1 = ((r % 2 : Nat) : Int) := by
  have := u32_and_nat r 1 h (by omega)
  rw [nat_mask1] at this
  exact this
theorem xorP (r : Nat) (h : r < 4294967296) : bits .xor .u32 (r : Int) 3988292384 = ((r ^^^ Sums.poly : Nat) : Int) :=
  u32_xor_nat r 3988292384 h (by omega)

theorem shift_any (b : Nat) (r : Nat) (x : Int) (w : World) (hb : Blk w b 22 #[.int .u32 (r : Int)]) (hr : r < 4294967296) (hx : 0 ≤ x) (hx2 : x < 2) :
    Calls Try.prog 18 #[.int .u32 x, .pointer (some ⟨b, 0, none⟩)] w fun e w' => e = .returned (.tuple #[]) ∧ Blk w' b 22 #[.int .u32 (Sums.stepB r x.toNat : Nat)] ∧ Below b w w' := by
  have hc : w.cell? ⟨b, 0, none⟩ = some (.int .u32 (r : Int)) := hb.cell 0
  have hf := hb.frozen 0
  obtain ⟨x, rfl⟩ := Int.eq_ofNat_of_zero_le hx
  have hand := and1 r hr
  have HX := hide (xorP (r / 2) (by omega))
  by_cases hp : r % 2 = x
  · have ht : (((r % 2 : Nat) : Int) != (x : Int)) = false := by simp [hp]
    have hs : Sums.stepB r x = r / 2 := by simp [Sums.stepB, hp]
    have HS := hide hs
    clear hs hp
    go_enter Try.func18, Try.ntmps18
    go_wp2
    go_end0
    refine ⟨rfl, ?_, by go_grown⟩
    rw [Int.toNat_natCast, HS.out]
    exact hb.put 0 _
  · have ht : (((r % 2 : Nat) : Int) != (x : Int)) = true := by simp; omega
    have hs : Sums.stepB r x = r / 2 ^^^ Sums.poly := by simp [Sums.stepB, hp]
    have HS := hide hs
    clear hs hp
    go_enter Try.func18, Try.ntmps18
    go_wp2
    go_end0
    refine ⟨rfl, ?_, by go_grown⟩
    rw [Int.toNat_natCast, HS.out, ← HX.out]
    exact (hb.put 0 _).put 0 _

theorem notS (s : Nat) (h : s < 4294967296) : bits .xor .u32 IntKind.u32.max (s : Int) = ((4294967295 - s : Nat) : Int) := by
  have e : (IntKind.u32.max : Int) = ((4294967295 : Nat) : Int) := by decide
  rw [e, u32_xor_nat 4294967295 s (by omega) h, Nat.xor_comm, Sums.turn_xor s h]

/-- The register behind the first k bytes. -/
def reg (s : Nat) (l : List UInt8) (k : Nat) : Nat := Sums.run (4294967295 - s) (l.take k)
theorem reg_lt (s : Nat) (l : List UInt8) (k : Nat) : reg s l k < 4294967296 := Sums.run_lt _ _ (by omega)
theorem reg_succ (s : Nat) (l : List UInt8) (k : Nat) (c : UInt8) (h : l[k]? = some c) : reg s l (k + 1) = Sums.byteS (reg s l k) c := by
  unfold reg
  rw [List.take_add_one, h]
  exact Sums.run_snoc _ _ _
theorem bit_cast (c k : Nat) : (c : Int) / 2 ^ k % 2 = ((c / 2 ^ k % 2 : Nat) : Int) := by simp
theorem bit_of (c k : Nat) (hc : c < 256) : bits .and .u32 ((c : Int) / 2 ^ k % 4294967296) 1 = (c : Int) / 2 ^ k % 2 := by
  have h : c / 2 ^ k < 4294967296 := Nat.lt_of_le_of_lt (Nat.div_le_self _ _) (by omega)
  have e1 : (c : Int) / 2 ^ k = ((c / 2 ^ k : Nat) : Int) := by simp
  rw [e1]
  generalize c / 2 ^ k = d at h
  rw [show (d : Int) % 4294967296 = (d : Int) by omega, and1 d h]
  omega

set_option maxHeartbeats 400000 in
theorem more_any (s : Nat) (A : Option Addr) (n c : Nat) (l : List UInt8) (w : World) (hs : s < 4294967296) (hl : Rb w w.heap.size A n l) (hn : n ≤ maxLen) :
    Calls Try.prog 8 #[.int .u32 (s : Int), .slice A n c] w fun e w' => e = .returned (.int .u32 (Sums.more s l : Nat)) ∧ Below w.heap.size w w' := by
  unfold maxLen at hn
  have hnot := notS s hs
  have HL := hide hl
  clear hl
  go_enter Try.func8, Try.ntmps8
  go_wp2
  go_loopw [15] (fun i wr => ∃ k : Nat, k ≤ n ∧ i = .int .i64 k ∧ Blk wr w.heap.size 22 #[.int .u32 (reg s l k : Nat)] ∧ Below w.heap.size w wr) (fun i _ => n - (intOf i).toNat)
  case atStart => exact ⟨0, Nat.zero_le _, rfl, by simpa [reg, Sums.run] using Blk.new w _ _, by go_grown⟩
  case round =>
    obtain ⟨k, hk, rfl, hblk, hbel⟩ := hrel
    by_cases hlt : k < n
    · obtain ⟨b, off, ch, rfl, hb, hch, hcell⟩ := (HL.out.below hbel (Nat.le_refl _)).at hlt
      have hch' := hide (reg_succ s l k ch hch)
      clear hch
      have hb8 := ch.toNat_lt
      go_wp2
      clear hcell
      go_loopw [19] (fun i wi => ∃ j : Nat, j ≤ 8 ∧ i = .int .i64 j ∧ Blk wi w.heap.size 22 #[.int .u32 (Sums.bitsTo (reg s l k) ch.toNat j : Nat)] ∧ Below w.heap.size w wi) (fun i _ => 8 - (intOf i).toNat)
      case atStart => exact ⟨0, Nat.zero_le _, rfl, hblk, hbel⟩
      case round =>
        obtain ⟨j, hj, rfl, hblk2, hbel2⟩ := hrel
        by_cases hj8 : j < 8
        · have hbit := bit_of ch.toNat j hb8
          go_wp2_with fail
          clear hbit
          (with_reducible refine (shift_any _ _ _ _ hblk2 (Sums.bitsTo_lt _ _ _ (reg_lt _ _ _)) (Int.emod_nonneg _ (by omega)) (Int.emod_lt_of_pos _ (by omega))).mono ?_)
          rintro e w2 ⟨rfl, hblk3, hbel3⟩
          rw [bit_cast, Int.toNat_natCast] at hblk3
          go_wp2
          go_roundw
          case rel => exact ⟨j + 1, by omega, by go_num, hblk3, hbel2.trans hbel3⟩
          case measure => simp [intOf]; omega
        · obtain rfl : j = 8 := by omega
          go_wp2_with fail
          go_roundw
          case rel => exact ⟨k + 1, by omega, by go_num, by rw [hch'.out]; exact hblk2, hbel2⟩
          case measure => simp [intOf]; omega
    · obtain rfl : k = n := by omega
      have hc : wr.cell? ⟨w.heap.size, 0, none⟩ = some (.int .u32 (reg s l k : Nat)) := hblk.cell 0
      have hnot2 := notS _ (reg_lt s l k)
      go_wp2
      go_ret
      refine ⟨?_, hbel⟩
      unfold Sums.more reg
      rw [List.take_of_length_le (by rw [HL.out.len]; exact Nat.le_refl _)]
      rfl

theorem more_int (s : Int) (A : Option Addr) (n c : Nat) (l : List UInt8) (w : World) (h0 : 0 ≤ s) (hs : s < 4294967296) (hl : Rb w w.heap.size A n l) (hn : n ≤ maxLen) :
    Calls Try.prog 8 #[.int .u32 s, .slice A n c] w fun e w' => e = .returned (.int .u32 (Sums.more s.toNat l : Nat)) ∧ Below w.heap.size w w' := by
  obtain ⟨s, rfl⟩ := Int.eq_ofNat_of_zero_le h0
  exact more_any s A n c l w (by omega) hl hn

theorem crc_any (A : Option Addr) (n c : Nat) (l : List UInt8) (w : World) (hl : Rb w w.heap.size A n l) (hn : n ≤ maxLen) :
    Calls Try.prog 7 #[.slice A n c] w fun e w' => e = .returned (.int .u32 (Sums.more 0 l : Nat)) ∧ Below w.heap.size w w' := by
  have HL := hide hl
  clear hl
  go_enter Try.func7, Try.ntmps7
  go_wp2_with fail
  (with_reducible refine (more_int 0 A n c l _ (by omega) (by omega) HL.out hn).mono ?_)
  rintro e w1 ⟨rfl, hb⟩
  go_wp2
  go_ret
  exact ⟨rfl, hb⟩

theorem bit_tmod (C j : Nat) : ((C : Int) / 2 ^ j).tmod 2 = ((C / 2 ^ j % 2 : Nat) : Int) := by
  have e1 : (C : Int) / 2 ^ j = ((C / 2 ^ j : Nat) : Int) := by simp
  rw [e1]
  rfl
theorem ref_yes (R C j : Nat) (hR : R < 4294967296) (h : (((C : Int) / 2 ^ j).tmod 2 != (R : Int) % 2) = true) : bits .xor .u32 ((R : Int) / 2) 3988292384 = ((Sums.stepB R (C / 2 ^ j % 2) : Nat) : Int) := by
  rw [bit_tmod] at h
  generalize C / 2 ^ j % 2 = x at *
  have h' : ¬ R % 2 = x := by simp at h; omega
  rw [Sums.stepB, if_neg h']
  exact xorP (R / 2) (by omega)
theorem ref_no (R C j : Nat) (h : (((C : Int) / 2 ^ j).tmod 2 != (R : Int) % 2) = false) : (R : Int) / 2 = ((Sums.stepB R (C / 2 ^ j % 2) : Nat) : Int) := by
  rw [bit_tmod] at h
  generalize C / 2 ^ j % 2 = x at *
  have h' : R % 2 = x := by simp at h; omega
  rw [Sums.stepB, if_pos h']
  simp

set_option maxHeartbeats 400000 in
theorem refMore_any (s : Int) (A : Option Addr) (n c : Nat) (l : List UInt8) (w : World) (h0 : 0 ≤ s) (hs : s < 4294967296) (hl : Rb w w.heap.size A n l) (hn : n ≤ maxLen) :
    Calls Try.prog 12 #[.int .u32 s, .slice A n c] w fun e w' => e = .returned (.int .u32 (Sums.more s.toNat l : Nat)) ∧ w = w' := by
  unfold maxLen at hn
  obtain ⟨s, rfl⟩ := Int.eq_ofNat_of_zero_le h0
  rw [Int.toNat_natCast]
  have hs' : s ≤ 4294967295 := by omega
  clear hs h0
  have HL := hide hl
  clear hl
  go_enter Try.func12, Try.ntmps12
  go_wp2
  go_loop [5, 6] (fun r i => ∃ k : Nat, k ≤ n ∧ i = .int .i64 k ∧ r = .int .u32 (reg s l k : Nat)) (fun _ i => n - (intOf i).toNat)
  case atStart => exact ⟨0, Nat.zero_le _, rfl, int_eq (by simp [reg, Sums.run]; omega)⟩
  case round =>
    obtain ⟨k, hk, rfl, rfl⟩ := hrel
    by_cases hlt : k < n
    · obtain ⟨b, off, ch, rfl, hb, hch, hcell⟩ := HL.out.at hlt
      have hch' := hide (reg_succ s l k ch hch)
      clear hch
      have hb8 := ch.toNat_lt
      go_wp2
      go_loop [5, 7] (fun r i => ∃ j : Nat, j ≤ 8 ∧ i = .int .i64 j ∧ r = .int .u32 (Sums.bitsTo (reg s l k) ch.toNat j : Nat)) (fun _ i => 8 - (intOf i).toNat)
      case atStart => exact ⟨0, Nat.zero_le _, rfl, rfl⟩
      case round =>
        obtain ⟨j, hj, rfl, rfl⟩ := hrel
        have hrl := Sums.bitsTo_lt (reg s l k) ch.toNat j (reg_lt _ _ _)
        by_cases hj8 : j < 8
        · generalize hR : Sums.bitsTo (reg s l k) ch.toNat j = R at *
          have HR := hide hR
          clear hR
          generalize hC : ch.toNat = C at *
          have HC := hide hC
          clear hC
          go_wp2
          · go_round
            case rel => exact ⟨j + 1, by omega, by go_num, int_eq (by rw [Sums.bitsTo, HR.out]; exact ref_yes R C j hrl ‹_›)⟩
            case measure => simp [intOf]; omega
          · go_round
            case rel => exact ⟨j + 1, by omega, by go_num, int_eq (by rw [Sums.bitsTo, HR.out]; exact ref_no R C j ‹_›)⟩
            case measure => simp [intOf]; omega
        · obtain rfl : j = 8 := by omega
          go_wp2
          go_round
          case rel => exact ⟨k + 1, by omega, by go_num, by rw [hch'.out]; rfl⟩
          case measure => simp [intOf]; omega
    · obtain rfl : k = n := by omega
      have hrl := reg_lt s l k
      go_wp2
      go_ret
      refine ⟨ret_int ?_, rfl⟩
      unfold Sums.more reg
      rw [List.take_of_length_le (by rw [HL.out.len]; exact Nat.le_refl _)]
      have := Sums.run_lt l (4294967295 - s) (by omega)
      omega
end Go.Proofs.Ytpfjhigiphkddaa
