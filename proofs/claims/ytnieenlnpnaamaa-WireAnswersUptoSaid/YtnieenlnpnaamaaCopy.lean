/-
  The walk of (*wire.Reader).Copy of a reader that was made. Conditions: at most 2^21 bytes are left.
-/
import Derived.Test.YtnieenlnpnaamaaFeeds
namespace Go.Proofs.Ytnieenlnpnaamaa
open Go.RowKit

theorem undrew {w w2 : World} (h : Below w.drew.heap.size w.drew w2) : Below w.heap.size w w2 := ⟨h.os, h.tape, h.output, h.size, h.block⟩
set_option maxHeartbeats 800000 in
theorem copy_ok (R base : Nat) (v : Value) (l0 : List UInt8) (b : Bool) (w : World) (hR : Rdr w R base v l0 b) (hn : l0.length ≤ 2097152) :
    Calls Try.prog 16 #[.pointer (some ⟨R, 0, none⟩)] w fun e w' => ∃ v', e = .returned (.pointer (some ⟨w.heap.size, 0, none⟩)) ∧ Rdr w' w.heap.size w.heap.size v' l0 b ∧ Below w.heap.size w w' := by
  obtain ⟨hblk, hown⟩ := hR
  obtain ⟨Av, cv, rfl⟩ := own_sl hown
  have hRl := hblk.lt
  have HK := hide hblk
  have HO := hide hown
  clear hblk hown
  go_enter Try.func16, Try.ntmps16
  go_wp2_with fail
  refine (made_yes R _ b _ HK.out).mono ?_
  rintro e w' ⟨rfl, rfl⟩
  go_wp2_with fail
  refine (new_any _).mono ?_
  intro e w1 hpost
  obtain ⟨rfl, hw1⟩ := hpost
  have HK1 : Hid (Blk w1 w.heap.size 45 #[.pointer (some ⟨w.heap.size, 0, none⟩), .slice none 0 0, .bool false]) := by rw [hw1]; exact Blk.new _ _ _
  have HB1 : Hid (Below w.heap.size w w1) := by rw [hw1]; exact (Below.refl _ _).alloc (Nat.le_refl _) _
  have HKR := hide (HK.out.below HB1.out hRl)
  have HOR := hide (own_below HO.out HB1.out)
  have hs1 := HK1.out.lt
  clear hw1
  have r1 := HKR.out.cell 1
  have r2 := HKR.out.cell 2
  simp at r1 r2
  go_wp2_with fail
  go_region_with (go_at_call 31; refine (clone_any Av l0.length cv l0 _ (by exact (Rb.own HOR.out)) (by omega)).mono ?_; rintro e w2 ⟨v2, rfl, hown2, hb2⟩; have HO2 := hide hown2; have HB2 := hide (undrew hb2); have HK2 := hide (HK1.out.below (undrew hb2) hs1); have HKR2 := hide (HKR.out.below (undrew hb2) (by omega)); clear hown2 hb2; obtain ⟨A2, c2, rfl⟩ := own_sl HO2.out; have s1 := HKR2.out.cell 1; have s2 := HKR2.out.cell 2; have t1 := HK2.out.cell 1; have t2 := HK2.out.cell 2; have f1 := HK2.out.frozen 1; have f2 := HK2.out.frozen 2; simp at s1 s2 t1 t2)
  all_goals
    go_wp2_with fail
    go_ret
    refine ⟨_, rfl, ⟨(HK2.out.put 1 _).put 2 _, ?_⟩, ?_⟩
    · exact own_base (ownsRow_setCell_below (ownsRow_setCell_below HO2.out (show w.heap.size < w1.heap.size from hs1) _) (show w.heap.size < w1.heap.size from hs1) _) (show w.heap.size ≤ w1.heap.size by omega)
    · exact ((HB1.out.trans (HB2.out.mono (by omega))).setCell (Nat.le_refl _) _).setCell (Nat.le_refl _) _
end Go.Proofs.Ytnieenlnpnaamaa
