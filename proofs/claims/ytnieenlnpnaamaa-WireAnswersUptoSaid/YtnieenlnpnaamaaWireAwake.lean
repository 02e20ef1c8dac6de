/-
  The walk of chancerylaw29.awake: the chapter's examples come out. Conditions: none.
-/
import Derived.Test.YtnieenlnpnaamaaPut
import Derived.Lib.SlBytesConst
namespace Go.Proofs.Ytnieenlnpnaamaa
open Go.RowKit

theorem Turned.ge {w w' : World} {R B lo : Nat} {v : Value} {n : Nat} {xs : List Value} (h : Turned w w' R v) (hB : B ≤ w.heap.size) (hR : B ≤ R) (hv : w.ownsRow lo 5 1 v n xs) (hlo : B ≤ lo) : Below B w w' :=
  h.below hB hR fun k hk => by have := (hv.lt k hk).1; omega
theorem eql_ptr_nil (a : Addr) (w : World) : (binOp .eql 24 (.pointer (some a)) (.pointer none)).run Try.prog w = .ok (.bool false) w := by
  obtain ⟨j, hj⟩ := Option.isSome_iff_exists.1 infoR
  have h : ∀ d : Nat, (Op.equalIn (d + 1) 24 (.pointer (some a)) (.pointer none)).run Try.prog w = .ok false w := fun d => by
    simp [Op.equalIn, run_underlying Try.underlying24]
  simp only [binOp]
  simp [Op.equal, Op.maxDepth, h 9999]
theorem Rdr.alloc {w : World} {R lo : Nat} {v : Value} {l : List UInt8} {b : Bool} (h : Rdr w R lo v l b) (o : Obj) : Rdr (w.alloc o) R lo v l b := ⟨h.1.alloc o, h.2.alloc o⟩

set_option maxHeartbeats 1600000 in
theorem awake_any (w : World) : Calls Try.prog 12 #[] w fun e w' => e = .returned (.bool true) ∧ Below w.heap.size w w' := by
  have e1 : Wire.cut ([] ++ [0, 0, 0]) = ([], [0, 0, 0], false) := by decide
  have e2 : Wire.cut ([0, 0, 0] ++ [2, 5, 97, 0]) = ([(5, [97])], [0], false) := by decide
  have e3 : Wire.cut ([0] ++ [0, 0, 0]) = ([], [], true) := by decide
  have HE1 := hide e1
  have HE2 := hide e2
  have HE3 := hide e3
  clear e1 e2 e3
  have kc := fun (w : World) (C : Array Value) (n c : Nat) => Lib.run_convert_bytes_const (P := Try.prog) w 22 5 C n c Try.underlying22 Try.underlying5
  have HL1 : Hid (Rb (w.alloc (.cells #[.int .u8 97] 5 (1, 2))) (w.alloc (.cells #[.int .u8 97] 5 (1, 2))).heap.size (some ⟨w.heap.size, 0, none⟩) 1 [97]) := Rb.lit w 5 [97] (1, 2)
  go_enter Try.func12, Try.ntmps12
  go_wp2_with fail
  refine (put_ok 5 _ 1 1 [97] _ HL1.out (by decide) (by omega)).mono ?_
  rintro e w1 ⟨v0, rfl, hown0, hb1⟩
  have HO0 := hide (own_base hown0 (show w.heap.size ≤ _ by simp))
  have HB1 := hide (grow1 (Below.refl w.heap.size w) (Nat.le_refl _) hb1)
  have hs1 := HB1.out.size
  clear hown0 hb1 kc
  obtain ⟨A0, c0, rfl⟩ := own_sl HO0.out
  go_wp2_with fail
  refine (new_any _).mono ?_
  intro e w2 hpost
  obtain ⟨rfl, hw2⟩ := hpost
  have HR2 : Hid (Rdr w2 w1.heap.size w2.heap.size (.slice none 0 0) [] false) := ⟨by rw [hw2]; exact Blk.new _ _ _, own_nil _ _ _ _⟩
  have HB2 : Hid (Below w1.heap.size w1 w2) := by rw [hw2]; exact (Below.refl _ _).alloc (Nat.le_refl _) _
  have hR2 := HR2.out.1.lt
  clear hw2
  have hne := fun w => eql_ptr_nil ⟨w1.heap.size, 0, none⟩ w
  have HL2 : Hid (Rb (w2.alloc (.cells #[.int .u8 0, .int .u8 0, .int .u8 0] 5)) (w2.alloc (.cells #[.int .u8 0, .int .u8 0, .int .u8 0] 5)).heap.size (some ⟨w2.heap.size, 0, none⟩) 3 [0, 0, 0]) := Rb.lit w2 5 [0, 0, 0]
  go_wp2_with fail
  refine (feed_ok w1.heap.size w2.heap.size _ [] _ 3 3 [0, 0, 0] _ (HR2.out.alloc _) HL2.out (by simp) (by simp)).mono ?_
  rintro e w3 ⟨vo3, v3, m3, rfl, hm3, hfr3, hr3, ht3⟩
  rw [HE1.out] at hfr3 hr3 ⊢
  have HR3 := hide hr3
  have HB3 : Hid (Below w1.heap.size w1 w3) := (HB2.out.alloc (by omega) _).trans (ht3.ge (by simp; omega) (by omega) (HR2.out.alloc _).2 (by omega))
  have hs3 := HB3.out.size
  obtain ⟨Ao3, co3, rfl⟩ := hfr3.form
  rw [World.size_alloc] at hm3
  clear hfr3 hr3 ht3
  have hl3 := HR3.out.1.lt
  have HL3 : Hid (Rb (w3.alloc (.cells #[.int .u8 2, .int .u8 5, .int .u8 97, .int .u8 0] 5)) (w3.alloc (.cells #[.int .u8 2, .int .u8 5, .int .u8 97, .int .u8 0] 5)).heap.size (some ⟨w3.heap.size, 0, none⟩) 4 [2, 5, 97, 0]) := Rb.lit w3 5 [2, 5, 97, 0]
  go_wp2_with fail
  refine (feed_ok w1.heap.size (min m3 w3.heap.size) v3 [0, 0, 0] _ 4 4 [2, 5, 97, 0] _ (show Rdr _ _ _ _ _ _ from ⟨(HR3.out.alloc _).1, own_base (HR3.out.alloc _).2 (by omega)⟩) HL3.out (by simp) (by simp; omega)).mono ?_
  rintro e w4 ⟨vo4, v4, m4, rfl, hm4, hfr4, hr4, ht4⟩
  rw [HE2.out] at hfr4 hr4 ⊢
  have HR4 := hide hr4
  have HB4 : Hid (Below w1.heap.size w1 w4) := (HB3.out.alloc (by omega) _).trans (ht4.ge (by simp; omega) (by omega) (HR3.out.alloc _).2 (by omega))
  have hs4 := HB4.out.size
  obtain ⟨Ao4, co4, rfl⟩ := hfr4.form
  rw [World.size_alloc] at hm4
  clear hfr4 hr4 ht4
  go_wp2_with fail
  refine (left_ok _ _ _ _ _ _ HR4.out).mono ?_
  rintro e w' ⟨rfl, rfl⟩
  have HL4 : Hid (Rb (w4.alloc (.cells #[.int .u8 0, .int .u8 0, .int .u8 0] 5)) (w4.alloc (.cells #[.int .u8 0, .int .u8 0, .int .u8 0] 5)).heap.size (some ⟨w4.heap.size, 0, none⟩) 3 [0, 0, 0]) := Rb.lit w4 5 [0, 0, 0]
  go_wp2_with fail
  refine (feed_ok w1.heap.size (min m4 w4.heap.size) v4 [0] _ 3 3 [0, 0, 0] _ (show Rdr _ _ _ _ _ _ from ⟨(HR4.out.alloc _).1, own_base (HR4.out.alloc _).2 (by omega)⟩) HL4.out (by simp) (by simp; omega)).mono ?_
  rintro e w5 ⟨vo5, v5, m5, rfl, hm5, hfr5, hr5, ht5⟩
  rw [HE3.out] at hfr5 hr5 ⊢
  have HR5 := hide hr5
  have HB5 : Hid (Below w1.heap.size w1 w5) := (HB4.out.alloc (by omega) _).trans (ht5.ge (by simp; omega) (by omega) (HR4.out.alloc _).2 (by omega))
  have hs5 := HB5.out.size
  obtain ⟨Ao5, co5, rfl⟩ := hfr5.form
  clear hfr5 hr5 ht5
  go_wp2_with fail
  refine (feed_broken w1.heap.size m5 v5 [] _ 6 6 _ (HR5.out.alloc _)).mono ?_
  rintro e w6 ⟨rfl, hw6⟩
  have HB6 : Hid (Below w1.heap.size w1 w6) := by rw [← hw6]; exact HB5.out.alloc (by omega) _
  have hs6 := HB6.out.size
  clear hw6
  go_wp2_with fail
  refine (error_312 _).mono ?_
  rintro e w7 ⟨rfl, hrb7, hb7⟩
  have HRb7 := hide hrb7
  have HB7 := hide (HB6.out.trans (hb7.mono hs6))
  have hs7 := HB7.out.size
  clear hrb7 hb7
  obtain ⟨w8, hw8⟩ : ∃ w8, w8 = w7.alloc (.cells #[.int .u8 8, .slice (some ⟨w6.heap.size + 1, 0, none⟩) 2 2] 42) := ⟨_, rfl⟩
  have HK8 : Hid (Blk w8 w7.heap.size 42 #[.int .u8 8, .slice (some ⟨w6.heap.size + 1, 0, none⟩) 2 2]) := by rw [hw8]; exact Blk.new _ _ _
  have HB8 : Hid (Below w1.heap.size w1 w8) := by rw [hw8]; exact HB7.out.alloc hs7 _
  have HRb8 : Hid (Rb w8 w7.heap.size (some ⟨w6.heap.size + 1, 0, none⟩) 2 [1, 56]) := by rw [hw8]; exact HRb7.out.keep fun p hp => World.cell?_alloc_lt w7 _ p hp
  have hs8 := HK8.out.lt
  go_wp2_with fail
  rw [← hw8]
  clear hw8
  refine (errno_ok _ 2 [1, 56] _ _ HRb8.out (by omega)).mono ?_
  rintro e w9 ⟨rfl, hb9⟩
  have HK9 := hide (HK8.out.below hb9 hs8)
  have HRb9 := hide (HRb8.out.below hb9 (Nat.le_of_lt hs8))
  have HB9 := hide (HB8.out.trans (hb9.mono (by omega)))
  have hs9 := HB9.out.size
  have hs9' := hb9.size
  clear hb9
  have HRb0 : Hid (Rb w9 w1.heap.size A0 6 [0, 0, 0, 2, 5, 97]) := by
    have e0 : Wire.put 5 [97] = [0, 0, 0, 2, 5, 97] := by decide
    have := Rb.own HO0.out
    rw [e0] at this
    exact this.below HB9.out (Nat.le_refl _)
  have HL9 : Hid (Rb (w9.alloc (.cells #[.int .u8 0, .int .u8 0, .int .u8 0, .int .u8 2, .int .u8 5, .int .u8 97] 5)) (w9.alloc (.cells #[.int .u8 0, .int .u8 0, .int .u8 0, .int .u8 2, .int .u8 5, .int .u8 97] 5)).heap.size (some ⟨w9.heap.size, 0, none⟩) 6 [0, 0, 0, 2, 5, 97]) := Rb.lit w9 5 [0, 0, 0, 2, 5, 97]
  obtain ⟨w10, hw10⟩ : ∃ w10, w10 = w9.alloc (.cells #[.int .u8 0, .int .u8 0, .int .u8 0, .int .u8 2, .int .u8 5, .int .u8 97] 5) := ⟨_, rfl⟩
  have HK10 : Hid (Blk w10 w7.heap.size 42 #[.int .u8 8, .slice (some ⟨w6.heap.size + 1, 0, none⟩) 2 2]) := by rw [hw10]; exact HK9.out.alloc _
  have HRb10 : Hid (Rb w10 w7.heap.size (some ⟨w6.heap.size + 1, 0, none⟩) 2 [1, 56]) := by rw [hw10]; exact HRb9.out.keep fun p hp => World.cell?_alloc_lt w9 _ p (by omega)
  have HR10 : Hid (Rb w10 w1.heap.size A0 6 [0, 0, 0, 2, 5, 97]) := by rw [hw10]; exact HRb0.out.keep fun p hp => World.cell?_alloc_lt w9 _ p (by omega)
  have HB10 : Hid (Below w1.heap.size w1 w10) := by rw [hw10]; exact HB9.out.alloc hs9 _
  have hs10 := HK10.out.lt
  have hc10 : w10.cell? ⟨w7.heap.size, 1, none⟩ = some (.slice (some ⟨w6.heap.size + 1, 0, none⟩) 2 2) := HK10.out.cell 1
  rw [← hw10] at HL9
  have HL10 := hide fun q => Rb.litAt (w10.drewN q) 5 [1, 56] (0, 0) w10.heap.size rfl
  go_wp2_with fail
  rw [← hw10]
  clear hw10
  refine (sameBytes_any _ _ 6 _ 6 _ _ _ _ _ _ HR10.out HL9.out (by unfold maxLen; omega)).mono ?_
  rintro e w' ⟨rfl, q, rfl⟩
  rw [show (([0, 0, 0, 2, 5, 97] : List UInt8) == [0, 0, 0, 2, 5, 97]) = true from rfl]
  go_wp2_with fail
  refine (sameBytes_any _ _ 2 _ 2 _ [1, 56] [1, 56] _ w7.heap.size _ ?_ (HL10.out q) (by unfold maxLen; omega)).mono ?_
  · exact (HRb10.out.drewN q).keep fun p hp => World.cell?_alloc_lt _ _ p (by show p.block < w10.heap.size; omega)
  rintro e w' ⟨rfl, q', rfl⟩
  rw [show (([1, 56] : List UInt8) == [1, 56]) = true from rfl]
  go_wp2_with fail
  go_ret
  exact ⟨rfl, HB1.out.trans ((below_drewN ((below_drewN HB10.out q).alloc (by show w1.heap.size ≤ w10.heap.size; exact HB10.out.size) _) q').mono hs1)⟩
end Go.Proofs.Ytnieenlnpnaamaa
