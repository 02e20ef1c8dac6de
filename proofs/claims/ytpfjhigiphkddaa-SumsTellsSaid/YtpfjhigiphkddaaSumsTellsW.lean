/-
  The walk of SumsTells: it returns true, and writes nothing that was there. Conditions: the slice reads as a list of bytes.
-/
import Derived.Test.YtpfjhigiphkddaaSumsLaws
namespace Go.Proofs.Ytpfjhigiphkddaa
open Go.RowKit

set_option maxHeartbeats 800000 in
theorem tells_any (s : Int) (A : Option Addr) (n c : Nat) (l : List UInt8) (w : World) (hwf : (Lit.int .u32 s).wf = true) (hl : Rb w w.heap.size A n l) (_hc : n ≤ c) (_hm : c ≤ maxLen) :
    Calls Try.prog 4 #[.int .u32 s, .slice A n c] w fun e w' => e = .returned (.bool true) ∧ Below w.heap.size w w' := by
  obtain ⟨h0, h1⟩ := bounds_u32 hwf
  clear hwf
  have HL := hide hl
  clear hl
  by_cases hn : n ≤ 20000
  · go_enter Try.func4, Try.ntmps4
    go_wp2_with fail
    refine (lentBytes_any A n c l _ HL.out (by omega)).mono ?_
    rintro e w1 ⟨g, cap, rfl, hown1, hb1⟩
    have HI1 := hide (Rb.own (own_take hown1 (show n ≤ n + 3 by omega)))
    rw [List.take_left' HL.out.len] at HI1
    have HO1 := hide hown1
    have HL1 := hide ((HL.out.below hb1 (Nat.le_refl _)).more hb1.size)
    have HB1 := hide hb1
    clear hown1 hb1
    go_wp2_with fail
    refine (crc_any _ n cap l _ HI1.out (by unfold maxLen; omega)).mono ?_
    rintro e w2 ⟨rfl, hb2⟩
    have HB2 := hide hb2
    clear hb2
    have HL2 := hide ((HL1.out.below HB2.out (Nat.le_refl _)).more HB2.out.size)
    have HI2 := hide ((HI1.out.below HB2.out (Nat.le_refl _)).more HB2.out.size)
    have HO2 := hide (own_below HO1.out HB2.out)
    go_wp2_with fail
    refine (refMore_any 0 A n c l _ (by omega) (by omega) HL2.out (by unfold maxLen; omega)).mono ?_
    rintro e w2' ⟨rfl, rfl⟩
    go_wp2_with fail
    refine (more_int s _ n cap l _ h0 (by omega) HI2.out (by unfold maxLen; omega)).mono ?_
    rintro e w3 ⟨rfl, hb3⟩
    have HB3 := hide hb3
    clear hb3
    have HL3 := hide ((HL2.out.below HB3.out (Nat.le_refl _)).more HB3.out.size)
    have HI3 := hide ((HI2.out.below HB3.out (Nat.le_refl _)).more HB3.out.size)
    have HO3 := hide (own_below HO2.out HB3.out)
    go_wp2_with fail
    refine (refMore_any s A n c l _ h0 (by omega) HL3.out (by unfold maxLen; omega)).mono ?_
    rintro e w3' ⟨rfl, rfl⟩
    go_wp2_with fail
    refine (fletcher_any _ n cap l _ HI3.out (by omega)).mono ?_
    rintro e w3' ⟨rfl, rfl⟩
    go_wp2_with fail
    refine (refFletcher_any A n c l _ HL3.out (by omega)).mono ?_
    rintro e w3' ⟨rfl, rfl⟩
    go_wp2_with fail
    refine (keptBytes_any g cap _ A n n c l _ _ HO3.out HL3.out (by omega)).mono ?_
    rintro e w3' ⟨rfl, rfl⟩
    go_wp2_with fail
    refine (awake_any _).mono ?_
    rintro e w4 ⟨rfl, hb4⟩
    go_wp2
    go_ret
    exact ⟨rfl, grow0 (grow0 (grow0 HB1.out HB1.out.size HB2.out) (by have := HB1.out.size; have := HB2.out.size; omega) HB3.out) (by have := HB1.out.size; have := HB2.out.size; have := HB3.out.size; omega) hb4⟩
  · go_enter Try.func4, Try.ntmps4
    go_wp2_with fail
    refine (awake_any _).mono ?_
    rintro e w1 ⟨rfl, hb1⟩
    go_wp2
    go_ret
    exact ⟨rfl, hb1⟩
end Go.Proofs.Ytpfjhigiphkddaa
