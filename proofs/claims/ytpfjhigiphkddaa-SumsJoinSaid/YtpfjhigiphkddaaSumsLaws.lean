/-
  The walks of the laws of layer 2 (SumsNumbers, SumsTells): each returns true, and writes nothing that was there. Conditions: slices read as lists of bytes.
-/
import Derived.Test.YtpfjhigiphkddaaSums
import Derived.Test.YtpfjhigiphkddaaFletcher
import Derived.Test.YtpfjhigiphkddaaLow
import Derived.Lib.SlBytesConst
namespace Go.Proofs.Ytpfjhigiphkddaa
open Go.RowKit

def u8s (l : List UInt8) : Array Value := (l.map B8).toArray

set_option maxHeartbeats 400000 in
theorem awake_any (w : World) : Calls Try.prog 10 #[] w fun e w' => e = .returned (.bool true) ∧ Below w.heap.size w w' := by
  have kc := fun (w : World) (C : Array Value) (n c : Nat) => Lib.run_convert_bytes_const (P := Try.prog) w 25 5 C n c Try.underlying25 Try.underlying5
  have HA := hide (Rb.lit w 5 [49, 50, 51, 52, 53, 54, 55, 56, 57] (9, 10))
  have HB := hide fun w1 => Rb.lit w1 5 [97, 98, 99, 100, 101] (5, 6)
  go_enter Try.func10, Try.ntmps10
  go_wp2_with fail
  refine (crc_any _ 9 9 _ _ HA.out (by decide)).mono ?_
  rintro e w1 ⟨rfl, hb1⟩
  rw [show Sums.more 0 [49, 50, 51, 52, 53, 54, 55, 56, 57] = 3421780262 by decide +kernel]
  go_wp2_with fail
  refine (fletcher_any _ 5 5 _ _ (HB.out w1) (by decide)).mono ?_
  rintro e w2 ⟨rfl, rfl⟩
  rw [show Sums.fletcher [97, 98, 99, 100, 101] = 4031760169 by decide +kernel]
  go_wp2
  go_ret
  exact ⟨rfl, (((Below.refl _ _).alloc (Nat.le_refl _) _).trans (hb1.mono (by simp))).alloc (by have := hb1.size; simp at this; omega) _⟩

theorem grow1 {B : Nat} {w a b : World} {o : Obj} (h : Below B w a) (hB : B ≤ a.heap.size) (hb : Below (a.alloc o).heap.size (a.alloc o) b) : Below B w b := (h.alloc hB o).trans (hb.mono (by simp; omega))
theorem grow0 {B : Nat} {w a b : World} (h : Below B w a) (hB : B ≤ a.heap.size) (hb : Below a.heap.size a b) : Below B w b := h.trans (hb.mono hB)

set_option maxHeartbeats 800000 in
theorem numbers_any (w : World) : Calls Try.prog 3 #[] w fun e w' => e = .returned (.bool true) ∧ Below w.heap.size w w' := by
  have kc := fun (w : World) (C : Array Value) (n c : Nat) => Lib.run_convert_bytes_const (P := Try.prog) w 25 5 C n c Try.underlying25 Try.underlying5
  have H1 := hide fun w1 => Rb.lit w1 5 [49, 50, 51, 52] (4, 5)
  have H2 := hide fun w1 => Rb.lit w1 5 [53, 54, 55, 56, 57] (5, 6)
  have H3 := hide fun w1 => Rb.lit w1 5 [1]
  have H4 := hide fun w1 g => Rb.litAt w1 5 [255, 255] (0, 0) g
  have H5 := hide fun w1 g => Rb.litAt w1 5 [0] (0, 0) g
  go_enter Try.func3, Try.ntmps3
  go_wp2_with fail
  refine (crc_any _ 0 0 [] _ Rb.nil (by decide)).mono ?_
  rintro e w1 ⟨rfl, hb1⟩
  rw [show Sums.more 0 [] = 0 by decide +kernel]
  go_wp2_with fail
  refine (crc_any _ 4 4 _ _ (H1.out w1) (by decide)).mono ?_
  rintro e w2 ⟨rfl, hb2⟩
  rw [show Sums.more 0 [49, 50, 51, 52] = 2615402659 by decide +kernel]
  have hB2 := grow1 hb1 hb1.size hb2
  clear hb1 hb2
  go_wp2_with fail
  refine (more_int 2615402659 _ 5 5 _ _ (by omega) (by omega) (H2.out w2) (by decide)).mono ?_
  rintro e w3 ⟨rfl, hb3⟩
  rw [show Sums.more (Int.toNat 2615402659) [53, 54, 55, 56, 57] = 3421780262 by decide +kernel]
  have hB3 := grow1 hB2 hB2.size hb3
  clear hB2 hb3
  go_wp2_with fail
  refine (fletcher_any _ 0 0 [] _ Rb.nil (by decide)).mono ?_
  rintro e w4 ⟨rfl, rfl⟩
  rw [show Sums.fletcher [] = 0 by decide +kernel]
  go_wp2_with fail
  refine (fletcher_any _ 1 1 _ _ (H3.out _) (by decide)).mono ?_
  rintro e w4 ⟨rfl, rfl⟩
  rw [show Sums.fletcher [1] = 65537 by decide +kernel]
  go_wp2_with fail
  refine (fletcher_any _ 2 2 _ _ (H4.out _ _ (by simp)) (by decide)).mono ?_
  rintro e w4 ⟨rfl, rfl⟩
  rw [show Sums.fletcher [255, 255] = 0 by decide +kernel]
  go_wp2_with fail
  refine (crc_any _ 1 1 _ _ (H5.out _ _ (by simp)) (by decide)).mono ?_
  rintro e w5 ⟨rfl, hb5⟩
  rw [show Sums.more 0 [0] = 3523407757 by decide +kernel]
  have hs3 := hB3.size
  have hB6 : Below w.heap.size w w5 := by
    refine Below.trans ?_ (hb5.mono ?_)
    · go_grown
    · simp; omega
  clear hb5 hB3 hs3
  go_wp2_with fail
  refine (awake_any _).mono ?_
  rintro e w6 ⟨rfl, hb6⟩
  go_wp2
  go_ret
  exact ⟨rfl, grow0 hB6 hB6.size hb6⟩
end Go.Proofs.Ytpfjhigiphkddaa
