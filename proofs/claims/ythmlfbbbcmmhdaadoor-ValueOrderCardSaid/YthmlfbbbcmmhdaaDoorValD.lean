/-
  The walks of package value: the function literal of sum. Conditions: numbers within 64 bits.
-/
import Derived.Test.YthmlfbbbcmmhdaaDoorValC
namespace Go.Proofs.YthmlfbbbcmmhdaaDoor
open Go.RowKit

/-- What a value comes to, in units of a kind. -/
def unitOf (k : UInt8) (n : Int) (kd : Nat) (sg : Int) : Int := if k.toNat = kd then n * sg else n * (sg * 10000)
theorem mul_bd {n m : Int} (h0 : -9223372036854775808 ≤ n) (h1 : n ≤ 9223372036854775807) (hm : m.natAbs ≤ 10000) : -92233720368547758080000 ≤ n * m ∧ n * m ≤ 92233720368547758080000 := by
  have h2 := Nat.mul_le_mul (show n.natAbs ≤ 9223372036854775808 by omega) hm
  rw [← Int.natAbs_mul] at h2
  omega
set_option maxRecDepth 8000 in
set_option maxHeartbeats 1600000 in
theorem unit_any (k : UInt8) (n : Int) (s : ByteArray) (kd g : Nat) (sg : Int) (w : World) (h0 : -9223372036854775808 ≤ n) (h1 : n ≤ 9223372036854775807) (hsg : sg = 1 ∨ sg = -1) (hg : w.cell? ⟨g, 0, none⟩ = some (.int .u8 (kd : Int))) :
    Calls Tryd.prog 79 #[.agg #[.int .u8 (k.toNat : Int), .int .i64 n, .string s], .int .i64 sg, .pointer (some ⟨g, 0, none⟩)] w fun e w' => e = .returned (.agg (wideA (unitOf k n kd sg))) ∧ Below w.heap.size w w' := by
  have hgl : g < w.heap.size := World.block_lt_of_cell? w ⟨g, 0, none⟩ hg
  obtain ⟨X, hX⟩ : ∃ X, X = unitOf k n kd sg := ⟨_, rfl⟩
  rw [← hX]
  unfold unitOf at hX
  have HX := hide hX
  clear hX
  have hs1 : -10000 ≤ sg ∧ sg ≤ 10000 := by omega
  obtain ⟨hs1, hs2⟩ := hs1
  have w1 : IntKind.i64.wrap (sg * 10000) = sg * 10000 := IntWalk.i64_in _ (by omega)
  obtain ⟨wz, hwz⟩ : ∃ x, x = (w.alloc (.cells #[.int .u8 (k.toNat : Int), .int .i64 n, .string s] 25)).alloc (.cells #[.int .i64 0, .int .u64 0] 73) := ⟨_, rfl⟩
  have HK : Hid (Blk wz (w.heap.size + 1) 73 #[.int .i64 0, .int .u64 0]) := by
    rw [hwz]
    have := Blk.new (w.alloc (.cells #[.int .u8 (k.toNat : Int), .int .i64 n, .string s] 25)) 73 #[.int .i64 0, .int .u64 0]
    show Blk _ _ _ _
    simpa using this
  have HB : Hid (Below w.heap.size w wz) := by rw [hwz]; exact ((Below.refl _ _).alloc (Nat.le_refl _) _).alloc (by simp) _
  have HW := hide hwz
  clear hwz
  by_cases hk : k.toNat = kd
  · have HF : Hid (X = n * sg) := HX.out.trans (if_pos hk)
    have t1 : ((k.toNat : Int) == (kd : Int)) = true := by simp; omega
    clear hk
    go_enter Tryd.func79, Tryd.ntmps79
    go_wp2_with fail
    rw [← HW.out]
    with_reducible refine (times_any n sg wz h0 h1 (by omega) (by omega)).mono ?_
    rintro e w2 ⟨rfl, hb2⟩
    rw [← HF.out]
    have hl := HK.out.lt
    have HK2 := hide (HK.out.below hb2 hl)
    have HB2 := hide (HB.out.trans (hb2.mono (by omega)))
    clear hb2
    have r0 : w2.cell? ⟨w.heap.size + 1, 0, none⟩ = some (.int .i64 0) := HK2.out.cell 0
    have r1 : w2.cell? ⟨w.heap.size + 1, 1, none⟩ = some (.int .u64 0) := HK2.out.cell 1
    have f0 := HK2.out.frozen 0
    have f1 := HK2.out.frozen 1
    have hl2 := HK2.out.lt
    unfold wideA
    go_wp2_with fail
    refine bodyPost_ret (v := .agg #[.int .i64 (X / 18446744073709551616), .int .u64 (X % 18446744073709551616)]) (by simp [results, Tryd.results79, go_sem, r0, r1]) rfl ⟨rfl, ?_⟩
    exact (HB2.out.setCell (show w.heap.size ≤ w.heap.size + 1 by omega) _).setCell (show w.heap.size ≤ w.heap.size + 1 by omega) _
  · have HF : Hid (X = n * (sg * 10000)) := HX.out.trans (if_neg hk)
    have t1 : ((k.toNat : Int) == (kd : Int)) = false := by simp; omega
    clear hk
    go_enter Tryd.func79, Tryd.ntmps79
    go_wp2_with fail
    rw [← HW.out]
    with_reducible refine (times_any n (sg * 10000) wz h0 h1 (by omega) (by omega)).mono ?_
    rintro e w2 ⟨rfl, hb2⟩
    rw [← HF.out]
    have hl := HK.out.lt
    have HK2 := hide (HK.out.below hb2 hl)
    have HB2 := hide (HB.out.trans (hb2.mono (by omega)))
    clear hb2
    have r0 : w2.cell? ⟨w.heap.size + 1, 0, none⟩ = some (.int .i64 0) := HK2.out.cell 0
    have r1 : w2.cell? ⟨w.heap.size + 1, 1, none⟩ = some (.int .u64 0) := HK2.out.cell 1
    have f0 := HK2.out.frozen 0
    have f1 := HK2.out.frozen 1
    have hl2 := HK2.out.lt
    unfold wideA
    go_wp2_with fail
    refine bodyPost_ret (v := .agg #[.int .i64 (X / 18446744073709551616), .int .u64 (X % 18446744073709551616)]) (by simp [results, Tryd.results79, go_sem, r0, r1]) rfl ⟨rfl, ?_⟩
    exact (HB2.out.setCell (show w.heap.size ≤ w.heap.size + 1 by omega) _).setCell (show w.heap.size ≤ w.heap.size + 1 by omega) _
end Go.Proofs.YthmlfbbbcmmhdaaDoor
