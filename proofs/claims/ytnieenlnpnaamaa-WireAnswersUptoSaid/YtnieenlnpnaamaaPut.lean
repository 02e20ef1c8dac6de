/-
  The walks of Put, Error, Errno. Conditions: sizes.
-/
import Derived.Test.YtnieenlnpnaamaaReader
namespace Go.Proofs.Ytnieenlnpnaamaa
open Go.RowKit

theorem error_312 (w : World) : Calls Try.prog 28 #[.int .i64 312] w fun e w' => e = .returned (.agg #[.int .u8 8, .slice (some ⟨w.heap.size + 1, 0, none⟩) 2 2]) ∧ Rb w' w'.heap.size (some ⟨w.heap.size + 1, 0, none⟩) 2 [1, 56] ∧ Below w.heap.size w w' := by
  go_enter Try.func28, Try.ntmps28
  go_wp2
  have HL := Rb.litAt (w.alloc (.cells #[.int .u8 8, .slice (some ⟨w.heap.size + 1, 0, none⟩) 2 2] 42)) 5 [1, 56] (0, 0) (w.heap.size + 1) (by simp)
  refine bodyPost_ret (v := .agg #[.int .u8 8, .slice (some ⟨w.heap.size + 1, 0, none⟩) 2 2]) (by simp [results, Try.results28, go_sem]) rfl ?_
  exact ⟨rfl, HL, by go_grown⟩

namespace Wire
def four (n : Nat) : List UInt8 := [UInt8.ofNat (n / 16777216), UInt8.ofNat (n / 65536), UInt8.ofNat (n / 256), UInt8.ofNat n]
def put (k : UInt8) (l : List UInt8) : List UInt8 := four (1 + l.length) ++ k :: l
end Wire

theorem wireNumber_any (n : Nat) (hn : n < 4294967296) (w : World) : Calls Try.prog 34 #[.int .i64 (n : Nat)] w fun e w' => e = .returned (.slice (some ⟨w.heap.size, 0, none⟩) 4 4) ∧ w' = w.alloc (.cells ((Wire.four n).map B8).toArray 5) := by
  have HE : Hid (#[Value.int .u8 (n / 16777216 : Int), .int .u8 (n / 65536 % 256 : Int), .int .u8 (n / 256 % 256 : Int), .int .u8 (n % 256 : Int)] = ((Wire.four n).map B8).toArray) := by
    show _ = _
    simp only [Wire.four, B8, List.map_cons, List.map_nil, UInt8.toNat_ofNat']
    congr <;> omega
  go_enter Try.func34, Try.ntmps34
  go_wp2
  go_ret
  exact ⟨rfl, by rw [HE.out]⟩

theorem or1 (c d : Nat) (hc : c < 256) (hd : d < 256) : bits .or .i64 ((c : Int) * 256) (d : Int) = (c : Int) * 256 + d := by
  have e3 := i64_or_nat (c * 256) d (by omega) (by omega)
  rw [nat_join 8 (c * 256) d (by omega) (by omega)] at e3
  rw [show (c : Int) * 256 = ((c * 256 : Nat) : Int) by omega, e3]
  omega
theorem errno_ok (A : Option Addr) (c : Nat) (l : List UInt8) (w : World) (B : Nat) (hl : Rb w B A 2 l) (hB : B ≤ w.heap.size) :
    Calls Try.prog 26 #[.agg #[.int .u8 8, .slice A 2 c]] w fun e w' => e = .returned (.tuple #[.int .i64 (((l.getD 0 0).toNat : Int) * 256 + (l.getD 1 0).toNat), .bool true]) ∧ Below w.heap.size w w' := by
  have hlen := hl.len
  have HL := hide (hl.more hB)
  clear hl hB
  obtain ⟨b, off, rfl, hb, hc⟩ := HL.out.all (by omega)
  have h0 := hc 0 (l.getD 0 0) (by simp [List.getD, List.getElem?_eq_getElem (show 0 < l.length by omega)])
  have h1 := hc 1 (l.getD 1 0) (by simp [List.getD, List.getElem?_eq_getElem (show 1 < l.length by omega)])
  clear hc hlen HL
  rw [Nat.add_zero] at h0
  generalize l.getD 0 0 = x0 at *
  generalize l.getD 1 0 = x1 at *
  have b0 := x0.toNat_lt
  have b1 := x1.toNat_lt
  have hor := or1 x0.toNat x1.toNat b0 b1
  obtain ⟨w1, hw1⟩ : ∃ w1, w1 = w.alloc (.cells #[.int .u8 8, .slice (some ⟨b, off, none⟩) 2 c] 42) := ⟨_, rfl⟩
  have hk1 : Blk w1 w.heap.size 42 #[.int .u8 8, .slice (some ⟨b, off, none⟩) 2 c] := by rw [hw1]; exact Blk.new _ _ _
  have g0 := World.cell?_alloc_lt w (.cells #[.int .u8 8, .slice (some ⟨b, off, none⟩) 2 c] 42) ⟨b, off, none⟩ hb
  have g1 := World.cell?_alloc_lt w (.cells #[.int .u8 8, .slice (some ⟨b, off, none⟩) 2 c] 42) ⟨b, off + 1, none⟩ hb
  rw [h0, ← hw1] at g0
  rw [h1, ← hw1] at g1
  have c0 := hk1.cell 0
  have c1 := hk1.cell 1
  have HB : Hid (Below w.heap.size w w1) := by rw [hw1]; exact (Below.refl _ _).alloc (Nat.le_refl _) _
  simp at c0 c1
  go_enter Try.func26, Try.ntmps26
  go_wp2_with fail
  rw [← hw1]
  clear hw1 h0 h1 hk1
  go_quiet (fail)
  go_wp2
  go_ret2
  exact ⟨rfl, below_drewN HB.out _⟩

theorem put_list (k : UInt8) (l : List UInt8) : splice ((splice (List.replicate (5 + l.length) 0) 0 (Wire.four (1 + l.length))).set 4 k) 5 l = Wire.put k l := by
  unfold Wire.put Wire.four splice
  rw [show 5 + l.length = l.length + 1 + 1 + 1 + 1 + 1 by omega]
  simp [List.replicate_succ]
set_option maxHeartbeats 800000 in
theorem put_ok (k : UInt8) (A : Option Addr) (n c : Nat) (l : List UInt8) (w : World) (hl : Rb w w.heap.size A n l) (hk : Wire.kindOk k = true) (hn : n ≤ 8191) :
    Calls Try.prog 24 #[.agg #[.int .u8 (k.toNat : Int), .slice A n c]] w fun e w' => ∃ v, e = .returned (.tuple #[v, .int .i64 0]) ∧ w'.ownsRow w.heap.size 5 1 v (5 + n) ((Wire.put k l).map B8) ∧ Below w.heap.size w w' := by
  have HL := hide hl
  have HKk := hide hk
  clear hl hk
  obtain ⟨i0, hi0, hz0, hz1, hz2⟩ := info_parts info8
  obtain ⟨w1, hw1⟩ : ∃ w1, w1 = w.alloc (.cells #[.int .u8 (k.toNat : Int), .slice A n c] 42) := ⟨_, rfl⟩
  have HK1 : Hid (Blk w1 w.heap.size 42 #[.int .u8 (k.toNat : Int), .slice A n c]) := by rw [hw1]; exact Blk.new _ _ _
  have HB1 : Hid (Below w.heap.size w w1) := by rw [hw1]; exact (Below.refl _ _).alloc (Nat.le_refl _) _
  have hc10 : w1.cell? ⟨w.heap.size, 0, none⟩ = some (.int .u8 (k.toNat : Int)) := HK1.out.cell 0
  have hc11 : w1.cell? ⟨w.heap.size, 1, none⟩ = some (.slice A n c) := HK1.out.cell 1
  have hs1 := HK1.out.lt
  go_enter Try.func24, Try.ntmps24
  go_wp2_with fail
  rw [← hw1]
  clear hw1
  refine (wireRight_any k _).mono ?_
  rintro e w' ⟨rfl, rfl⟩
  rw [HKk.out]
  go_wp2_with (first
    | (at_make; refine wpList_make_full _ rfl _ _ 22 rfl w1.heap.size 5 i0 _ 1 Try.underlying22 hi0 hz0 hz1 .i64 .i64 _ _ (5 + n) rfl rfl (by omega) (by omega) (by rw [hz2]; omega) (by unfold maxLen; omega) (Nat.le_refl _) ?_; intro w2 hown2 hg2; have HB2 : Hid (Below w.heap.size w w2) := HB1.out.grown hg2 (by omega) (by simp); have HK2 := hide (HK1.out.grown hg2 (by simp)); have HO2 : Hid (w2.ownsRow w1.heap.size 5 1 (.slice (some ⟨w1.heap.size, 0, none⟩) (5 + n) (5 + n)) (5 + n) ((List.replicate (5 + n) 0).map B8)) := (by have := hown2; rw [Nat.mul_one] at this; rw [List.map_replicate]; exact (toList_madeCells_one (.int .u8 0) (5 + n)) ▸ this); have hsz2 := HK2.out.lt; clear hown2 hg2; have hc20 : w2.cell? ⟨w.heap.size, 0, none⟩ = some (.int .u8 (k.toNat : Int)) := HK2.out.cell 0; have hc21 : w2.cell? ⟨w.heap.size, 1, none⟩ = some (.slice A n c) := HK2.out.cell 1))
  rw [show (1 + (n : Int)) = ((1 + n : Nat) : Int) by omega]
  refine (wireNumber_any (1 + n) (by omega) _).mono ?_
  intro e w3 hpost
  obtain ⟨rfl, hw3⟩ := hpost
  have HLit : Hid (Rb w3 w3.heap.size (some ⟨w2.heap.size, 0, none⟩) 4 (Wire.four (1 + n))) := by rw [hw3]; exact Rb.lit w2 5 (Wire.four (1 + n))
  have HO3 : Hid (w3.ownsRow w1.heap.size 5 1 (.slice (some ⟨w1.heap.size, 0, none⟩) (5 + n) (5 + n)) (5 + n) ((List.replicate (5 + n) 0).map B8)) := by rw [hw3]; exact HO2.out.alloc _
  have HK3 : Hid (Blk w3 w.heap.size 42 #[.int .u8 (k.toNat : Int), .slice A n c]) := by rw [hw3]; exact HK2.out.alloc _
  have HB3 : Hid (Below w.heap.size w w3) := by rw [hw3]; exact HB2.out.alloc (by omega) _
  clear hw3 HO2 HK2 HB2 hc10 hc11 hc20 hc21
  obtain ⟨w4, hrun4, hown4, hb4⟩ := run_copyB w3 bt 3 w1.heap.size w1.heap.size (5 + n) (5 + n) 0 (List.replicate (5 + n) 0) HO3.out (Nat.zero_le _) (some ⟨w1.heap.size, 0, none⟩) (5 + n) (5 + n) rfl (fun _ => rfl) _ _ 4 4 (Wire.four (1 + n)) HLit.out
  rw [show 5 + n - 0 = 5 + n by omega, List.take_of_length_le (show (Wire.four (1 + n)).length ≤ 5 + n by simp [Wire.four]; omega)] at hown4 hrun4
  have HO4 := hide hown4
  have HK4 := hide (HK3.out.below hb4 (by omega))
  have HB4 := hide (HB3.out.trans (hb4.mono (by omega)))
  have hc40 : w4.cell? ⟨w.heap.size, 0, none⟩ = some (.int .u8 (k.toNat : Int)) := HK4.out.cell 0
  have hc4 := HO4.out.cellAt 4 (by omega)
  have hf4 := HO4.out.frozenAt 4
  have hc4' : ∃ u, w4.cell? ⟨w1.heap.size, 4, none⟩ = some u := by
    rw [hc4]
    exact ⟨_, List.getElem?_eq_getElem (by simp [splice]; omega)⟩
  obtain ⟨u4, hu4⟩ := hc4'
  clear hown4 hb4 hc4
  have H5 := HO4.out.stored 4 (.int .u8 (k.toNat : Int))
  have HO5 : Hid ((w4.setCell ⟨w1.heap.size, 4, none⟩ (.int .u8 (k.toNat : Int))).ownsRow w1.heap.size 5 1 (.slice (some ⟨w1.heap.size, 0, none⟩) (5 + n) (5 + n)) (5 + n) (((splice (List.replicate (5 + n) 0) 0 (Wire.four (1 + n))).set 4 k).map B8)) := by
    rw [List.map_set]
    exact H5.1
  have HK5 := hide (HK4.out.far (p := ⟨w1.heap.size, 4, none⟩) (by show w.heap.size ≠ w1.heap.size; omega) (.int .u8 (k.toNat : Int)))
  have HB5 : Hid (Below w.heap.size w (w4.setCell ⟨w1.heap.size, 4, none⟩ (.int .u8 (k.toNat : Int)))) := HB4.out.setCell (show w.heap.size ≤ w1.heap.size by omega) _
  have hc51 : (w4.setCell ⟨w1.heap.size, 4, none⟩ (.int .u8 (k.toNat : Int))).cell? ⟨w.heap.size, 1, none⟩ = some (.slice A n c) := HK5.out.cell 1
  clear H5
  have hput : splice ((splice (List.replicate (5 + n) 0) 0 (Wire.four (1 + n))).set 4 k) 5 (l.take (5 + n - 5)) = Wire.put k l := by
    rw [show 5 + n - 5 = n by omega, List.take_of_length_le (by rw [HL.out.len]; omega)]
    rw [← HL.out.len]
    exact put_list k l
  have HP := hide hput
  clear hput
  obtain ⟨w5, hw5⟩ : ∃ w5, w5 = w4.setCell ⟨w1.heap.size, 4, none⟩ (.int .u8 (k.toNat : Int)) := ⟨_, rfl⟩
  rw [← hw5] at HO5 HK5 HB5 hc51
  have h5n : (5 : Int) ≤ 5 + (n : Int) := by omega
  by_cases hn0 : n = 0
  · subst hn0
    obtain ⟨w6, hrun6, hown6, hb6⟩ := run_copyB w5.drew bt 3 w1.heap.size w1.heap.size (5 + 0) (5 + 0) 5 _ HO5.out.drew (by omega) (some ⟨w1.heap.size, 0, none⟩) 0 0 rfl (fun h => by omega) w.heap.size A 0 c l ((HL.out.below HB5.out (Nat.le_refl _)).keep fun _ _ => rfl)
    rw [HP.out] at hown6
    have HO6 := hide hown6
    have HB6 := hide ((below_drewN HB5.out 1).trans (hb6.mono (by omega)))
    clear hown6 hb6
    go_wp2_with fail
    rw [← hw5]
    clear hw5
    go_region
    go_wp2_with fail
    go_ret2
    exact ⟨_, rfl, own_base HO6.out (by omega), HB6.out⟩
  · obtain ⟨w6, hrun6, hown6, hb6⟩ := run_copyB w5.drew bt 3 w1.heap.size w1.heap.size (5 + n) (5 + n) 5 _ HO5.out.drew (by omega) (some ⟨w1.heap.size, 5, none⟩) n n (by omega) (fun _ => rfl) w.heap.size A n c l ((HL.out.below HB5.out (Nat.le_refl _)).keep fun _ _ => rfl)
    rw [HP.out] at hown6
    have HO6 := hide hown6
    have HB6 := hide ((below_drewN HB5.out 1).trans (hb6.mono (by omega)))
    clear hown6 hb6
    go_wp2_with fail
    rw [← hw5]
    clear hw5
    go_region
    go_wp2_with fail
    go_ret2
    exact ⟨_, rfl, own_base HO6.out (by omega), HB6.out⟩
end Go.Proofs.Ytnieenlnpnaamaa
