/-
  The walk of chancerylaw18.CellPlaces: it returns true. Conditions: the texts are of a length that an int holds.
-/
import Derived.Test.YtccapkkaeljnfaaAwake18
namespace Go.Proofs.Ytccapkkaeljnfaa
open Go.RowKit

theorem rb_drew {w w' : World} {q : Nat} (e : w' = w.drewN q) {A : Option Addr} {n B : Nat} {l : List UInt8} (h : Rb w B A n l) : Rb w' B A n l := by rw [e]; exact h.drewN q
theorem blk_drew {w w' : World} {q : Nat} (e : w' = w.drewN q) {g : Nat} {t : TypeId} {cs : Array Value} (h : Blk w g t cs) : Blk w' g t cs := by rw [e]; exact h
theorem rb_next {w w' : World} {A : Option Addr} {n B : Nat} {l : List UInt8} (h : Rb w B A n l) (hb : Below w.heap.size w w') (hB : B ≤ w.heap.size) : Rb w' B A n l := h.below hb hB

set_option maxRecDepth 20000 in
set_option maxHeartbeats 8000000 in
theorem cellPlaces_any (t : Int) (kd : UInt8) (tbl col : ByteArray) (k : UInt8) (n : Int) (s : ByteArray) (w : World) (htbl : tbl.size ≤ maxLen) (hcol : col.size ≤ maxLen) (_u1 : -9223372036854775808 ≤ t) (_u2 : t ≤ 9223372036854775807) (_u3 : s.size ≤ maxLen) (_u4 : -9223372036854775808 ≤ n) (_u5 : n ≤ 9223372036854775807) :
    Calls Try.prog 5 #[.agg #[.int .i64 t, .int .u8 (kd.toNat : Int), .string tbl, .string col], .agg #[.int .u8 (k.toNat : Int), .int .i64 n, .string s]] w fun e w' => e = .returned (.bool true) ∧ Below w.heap.size w w' := by
  have HT := hide htbl
  have HCo := hide hcol
  clear htbl hcol _u1 _u2 _u3 _u4 _u5
  go_enter Try.func5, Try.ntmps5
  go_wp2_with fail
  obtain ⟨w0, hw0⟩ : ∃ w0, w0 = (w.alloc (.cells #[.int .i64 t, .int .u8 (kd.toNat : Int), .string tbl, .string col] 40)).alloc (.cells #[.int .u8 (k.toNat : Int), .int .i64 n, .string s] 36) := ⟨_, rfl⟩
  rw [← hw0]
  have HP0 : Hid (Blk w0 w.heap.size 40 #[.int .i64 t, .int .u8 (kd.toNat : Int), .string tbl, .string col]) := by rw [hw0]; exact (Blk.new w _ _).alloc _
  have HV0 : Hid (Blk w0 (w.heap.size + 1) 36 #[.int .u8 (k.toNat : Int), .int .i64 n, .string s]) := by
    rw [hw0]
    have := Blk.new (w.alloc (.cells #[.int .i64 t, .int .u8 (kd.toNat : Int), .string tbl, .string col] 40)) 36 #[.int .u8 (k.toNat : Int), .int .i64 n, .string s]
    show Blk _ _ _ _
    simpa using this
  have HB0 : Hid (Below w.heap.size w w0) := by rw [hw0]; exact ((Below.refl _ _).alloc (Nat.le_refl _) _).alloc (by simp) _
  have hz0 : w.heap.size + 2 ≤ w0.heap.size := by rw [hw0]; simp
  clear hw0
  obtain ⟨p0, hp0⟩ : ∃ p, p = Cell.key ⟨k, n, s⟩ := ⟨_, rfl⟩
  have HQ0 := hide hp0
  clear hp0
  obtain ⟨p1, hp1⟩ : ∃ p, p = Cell.rowKey t tbl.data.toList ⟨k, n, s⟩ := ⟨_, rfl⟩
  have HQ1 := hide hp1
  clear hp1
  obtain ⟨p2, hp2⟩ : ∃ p, p = Cell.uniqueKey t tbl.data.toList col.data.toList ⟨k, n, s⟩ := ⟨_, rfl⟩
  have HQ2 := hide hp2
  clear hp2
  obtain ⟨p3, hp3⟩ : ∃ p, p = Cell.catKey t kd tbl.data.toList := ⟨_, rfl⟩
  have HQ3 := hide hp3
  clear hp3
  refine (key_any k n s w0).mono ?_
  rintro e w1 ⟨v0, rfl, ho0, hb0⟩
  rw [← HQ0.out] at ho0 ⊢
  obtain ⟨A0, c0, rfl, -, hc0, hm0⟩ := own_form ho0
  have HR0 : Hid (Rb w1 w1.heap.size A0 p0.2.length p0.2) := Rb.own ho0
  have hl0 : p0.2.length ≤ maxLen := Nat.le_trans hc0 hm0
  have HL0 := hide hl0
  have HP1 := hide (HP0.out.below hb0 (by omega))
  have HV1 := hide (HV0.out.below hb0 (by omega))
  have HB1 := hide (HB0.out.trans (hb0.mono (by omega)))
  have hz1 := hb0.size
  have d10 : w1.cell? ⟨w.heap.size, 0, none⟩ = some (.int .i64 t) := HP1.out.cell 0
  have d11 : w1.cell? ⟨w.heap.size, 1, none⟩ = some (.int .u8 (kd.toNat : Int)) := HP1.out.cell 1
  have d12 : w1.cell? ⟨w.heap.size, 2, none⟩ = some (.string tbl) := HP1.out.cell 2
  have d13 : w1.cell? ⟨w.heap.size, 3, none⟩ = some (.string col) := HP1.out.cell 3
  have g10 : w1.cell? ⟨w.heap.size + 1, 0, none⟩ = some (.int .u8 (k.toNat : Int)) := HV1.out.cell 0
  have g11 : w1.cell? ⟨w.heap.size + 1, 1, none⟩ = some (.int .i64 n) := HV1.out.cell 1
  have g12 : w1.cell? ⟨w.heap.size + 1, 2, none⟩ = some (.string s) := HV1.out.cell 2
  clear ho0 hb0 hc0 hm0 hl0 HP0 HV0 HB0
  go_wp2_with fail
  refine (refKey_any k n s w1).mono ?_
  rintro e w2 ⟨v1, rfl, ho1, hb1⟩
  rw [← HQ0.out] at ho1 ⊢
  obtain ⟨A1, c1, rfl, -, hc1, hm1⟩ := own_form ho1
  have HR1 : Hid (Rb w2 w2.heap.size A1 p0.2.length p0.2) := Rb.own ho1
  have hl1 : p0.2.length ≤ maxLen := Nat.le_trans hc1 hm1
  have HL1 := hide hl1
  replace HR0 := hide (HR0.out.below hb1 (by omega))
  have HP2 := hide (HP1.out.below hb1 (by omega))
  have HV2 := hide (HV1.out.below hb1 (by omega))
  have HB2 := hide (HB1.out.trans (hb1.mono (by omega)))
  have hz2 := hb1.size
  have d20 : w2.cell? ⟨w.heap.size, 0, none⟩ = some (.int .i64 t) := HP2.out.cell 0
  have d21 : w2.cell? ⟨w.heap.size, 1, none⟩ = some (.int .u8 (kd.toNat : Int)) := HP2.out.cell 1
  have d22 : w2.cell? ⟨w.heap.size, 2, none⟩ = some (.string tbl) := HP2.out.cell 2
  have d23 : w2.cell? ⟨w.heap.size, 3, none⟩ = some (.string col) := HP2.out.cell 3
  have g20 : w2.cell? ⟨w.heap.size + 1, 0, none⟩ = some (.int .u8 (k.toNat : Int)) := HV2.out.cell 0
  have g21 : w2.cell? ⟨w.heap.size + 1, 1, none⟩ = some (.int .i64 n) := HV2.out.cell 1
  have g22 : w2.cell? ⟨w.heap.size + 1, 2, none⟩ = some (.string s) := HV2.out.cell 2
  clear ho1 hb1 hc1 hm1 hl1 HP1 HV1 HB1 d10 d11 d12 d13 g10 g11 g12
  go_wp2_with fail
  refine (rowKey_any t tbl k n s w2 HT.out).mono ?_
  rintro e w3 ⟨v2, rfl, ho2, hb2⟩
  rw [← HQ1.out] at ho2 ⊢
  obtain ⟨A2, c2, rfl, -, hc2, hm2⟩ := own_form ho2
  have HR2 : Hid (Rb w3 w3.heap.size A2 p1.2.length p1.2) := Rb.own ho2
  have hl2 : p1.2.length ≤ maxLen := Nat.le_trans hc2 hm2
  have HL2 := hide hl2
  replace HR0 := hide (HR0.out.below hb2 (by omega))
  replace HR1 := hide (HR1.out.below hb2 (by omega))
  have HP3 := hide (HP2.out.below hb2 (by omega))
  have HV3 := hide (HV2.out.below hb2 (by omega))
  have HB3 := hide (HB2.out.trans (hb2.mono (by omega)))
  have hz3 := hb2.size
  have d30 : w3.cell? ⟨w.heap.size, 0, none⟩ = some (.int .i64 t) := HP3.out.cell 0
  have d31 : w3.cell? ⟨w.heap.size, 1, none⟩ = some (.int .u8 (kd.toNat : Int)) := HP3.out.cell 1
  have d32 : w3.cell? ⟨w.heap.size, 2, none⟩ = some (.string tbl) := HP3.out.cell 2
  have d33 : w3.cell? ⟨w.heap.size, 3, none⟩ = some (.string col) := HP3.out.cell 3
  have g30 : w3.cell? ⟨w.heap.size + 1, 0, none⟩ = some (.int .u8 (k.toNat : Int)) := HV3.out.cell 0
  have g31 : w3.cell? ⟨w.heap.size + 1, 1, none⟩ = some (.int .i64 n) := HV3.out.cell 1
  have g32 : w3.cell? ⟨w.heap.size + 1, 2, none⟩ = some (.string s) := HV3.out.cell 2
  clear ho2 hb2 hc2 hm2 hl2 HP2 HV2 HB2 d20 d21 d22 d23 g20 g21 g22
  go_wp2_with fail
  refine (refRowKey_any t tbl k n s w3 HT.out).mono ?_
  rintro e w4 ⟨v3, rfl, ho3, hb3⟩
  rw [← HQ1.out] at ho3 ⊢
  obtain ⟨A3, c3, rfl, -, hc3, hm3⟩ := own_form ho3
  have HR3 : Hid (Rb w4 w4.heap.size A3 p1.2.length p1.2) := Rb.own ho3
  have hl3 : p1.2.length ≤ maxLen := Nat.le_trans hc3 hm3
  have HL3 := hide hl3
  replace HR0 := hide (HR0.out.below hb3 (by omega))
  replace HR1 := hide (HR1.out.below hb3 (by omega))
  replace HR2 := hide (HR2.out.below hb3 (by omega))
  have HP4 := hide (HP3.out.below hb3 (by omega))
  have HV4 := hide (HV3.out.below hb3 (by omega))
  have HB4 := hide (HB3.out.trans (hb3.mono (by omega)))
  have hz4 := hb3.size
  have d40 : w4.cell? ⟨w.heap.size, 0, none⟩ = some (.int .i64 t) := HP4.out.cell 0
  have d41 : w4.cell? ⟨w.heap.size, 1, none⟩ = some (.int .u8 (kd.toNat : Int)) := HP4.out.cell 1
  have d42 : w4.cell? ⟨w.heap.size, 2, none⟩ = some (.string tbl) := HP4.out.cell 2
  have d43 : w4.cell? ⟨w.heap.size, 3, none⟩ = some (.string col) := HP4.out.cell 3
  have g40 : w4.cell? ⟨w.heap.size + 1, 0, none⟩ = some (.int .u8 (k.toNat : Int)) := HV4.out.cell 0
  have g41 : w4.cell? ⟨w.heap.size + 1, 1, none⟩ = some (.int .i64 n) := HV4.out.cell 1
  have g42 : w4.cell? ⟨w.heap.size + 1, 2, none⟩ = some (.string s) := HV4.out.cell 2
  clear ho3 hb3 hc3 hm3 hl3 HP3 HV3 HB3 d30 d31 d32 d33 g30 g31 g32
  go_wp2_with fail
  refine (uniqueKey_any t tbl col k n s w4 HT.out HCo.out).mono ?_
  rintro e w5 ⟨v4, rfl, ho4, hb4⟩
  rw [← HQ2.out] at ho4 ⊢
  obtain ⟨A4, c4, rfl, -, hc4, hm4⟩ := own_form ho4
  have HR4 : Hid (Rb w5 w5.heap.size A4 p2.2.length p2.2) := Rb.own ho4
  have hl4 : p2.2.length ≤ maxLen := Nat.le_trans hc4 hm4
  have HL4 := hide hl4
  replace HR0 := hide (HR0.out.below hb4 (by omega))
  replace HR1 := hide (HR1.out.below hb4 (by omega))
  replace HR2 := hide (HR2.out.below hb4 (by omega))
  replace HR3 := hide (HR3.out.below hb4 (by omega))
  have HP5 := hide (HP4.out.below hb4 (by omega))
  have HV5 := hide (HV4.out.below hb4 (by omega))
  have HB5 := hide (HB4.out.trans (hb4.mono (by omega)))
  have hz5 := hb4.size
  have d50 : w5.cell? ⟨w.heap.size, 0, none⟩ = some (.int .i64 t) := HP5.out.cell 0
  have d51 : w5.cell? ⟨w.heap.size, 1, none⟩ = some (.int .u8 (kd.toNat : Int)) := HP5.out.cell 1
  have d52 : w5.cell? ⟨w.heap.size, 2, none⟩ = some (.string tbl) := HP5.out.cell 2
  have d53 : w5.cell? ⟨w.heap.size, 3, none⟩ = some (.string col) := HP5.out.cell 3
  have g50 : w5.cell? ⟨w.heap.size + 1, 0, none⟩ = some (.int .u8 (k.toNat : Int)) := HV5.out.cell 0
  have g51 : w5.cell? ⟨w.heap.size + 1, 1, none⟩ = some (.int .i64 n) := HV5.out.cell 1
  have g52 : w5.cell? ⟨w.heap.size + 1, 2, none⟩ = some (.string s) := HV5.out.cell 2
  clear ho4 hb4 hc4 hm4 hl4 HP4 HV4 HB4 d40 d41 d42 d43 g40 g41 g42
  go_wp2_with fail
  refine (refUniqueKey_any t tbl col k n s w5 HT.out HCo.out).mono ?_
  rintro e w6 ⟨v5, rfl, ho5, hb5⟩
  rw [← HQ2.out] at ho5 ⊢
  obtain ⟨A5, c5, rfl, -, hc5, hm5⟩ := own_form ho5
  have HR5 : Hid (Rb w6 w6.heap.size A5 p2.2.length p2.2) := Rb.own ho5
  have hl5 : p2.2.length ≤ maxLen := Nat.le_trans hc5 hm5
  have HL5 := hide hl5
  replace HR0 := hide (HR0.out.below hb5 (by omega))
  replace HR1 := hide (HR1.out.below hb5 (by omega))
  replace HR2 := hide (HR2.out.below hb5 (by omega))
  replace HR3 := hide (HR3.out.below hb5 (by omega))
  replace HR4 := hide (HR4.out.below hb5 (by omega))
  have HP6 := hide (HP5.out.below hb5 (by omega))
  have HV6 := hide (HV5.out.below hb5 (by omega))
  have HB6 := hide (HB5.out.trans (hb5.mono (by omega)))
  have hz6 := hb5.size
  have d60 : w6.cell? ⟨w.heap.size, 0, none⟩ = some (.int .i64 t) := HP6.out.cell 0
  have d61 : w6.cell? ⟨w.heap.size, 1, none⟩ = some (.int .u8 (kd.toNat : Int)) := HP6.out.cell 1
  have d62 : w6.cell? ⟨w.heap.size, 2, none⟩ = some (.string tbl) := HP6.out.cell 2
  have d63 : w6.cell? ⟨w.heap.size, 3, none⟩ = some (.string col) := HP6.out.cell 3
  have g60 : w6.cell? ⟨w.heap.size + 1, 0, none⟩ = some (.int .u8 (k.toNat : Int)) := HV6.out.cell 0
  have g61 : w6.cell? ⟨w.heap.size + 1, 1, none⟩ = some (.int .i64 n) := HV6.out.cell 1
  have g62 : w6.cell? ⟨w.heap.size + 1, 2, none⟩ = some (.string s) := HV6.out.cell 2
  clear ho5 hb5 hc5 hm5 hl5 HP5 HV5 HB5 d50 d51 d52 d53 g50 g51 g52
  go_wp2_with fail
  refine (catKey_any t kd tbl w6 HT.out).mono ?_
  rintro e w7 ⟨v6, rfl, ho6, hb6⟩
  rw [← HQ3.out] at ho6 ⊢
  obtain ⟨A6, c6, rfl, -, hc6, hm6⟩ := own_form ho6
  have HR6 : Hid (Rb w7 w7.heap.size A6 p3.2.length p3.2) := Rb.own ho6
  have hl6 : p3.2.length ≤ maxLen := Nat.le_trans hc6 hm6
  have HL6 := hide hl6
  replace HR0 := hide (HR0.out.below hb6 (by omega))
  replace HR1 := hide (HR1.out.below hb6 (by omega))
  replace HR2 := hide (HR2.out.below hb6 (by omega))
  replace HR3 := hide (HR3.out.below hb6 (by omega))
  replace HR4 := hide (HR4.out.below hb6 (by omega))
  replace HR5 := hide (HR5.out.below hb6 (by omega))
  have HP7 := hide (HP6.out.below hb6 (by omega))
  have HV7 := hide (HV6.out.below hb6 (by omega))
  have HB7 := hide (HB6.out.trans (hb6.mono (by omega)))
  have hz7 := hb6.size
  have d70 : w7.cell? ⟨w.heap.size, 0, none⟩ = some (.int .i64 t) := HP7.out.cell 0
  have d71 : w7.cell? ⟨w.heap.size, 1, none⟩ = some (.int .u8 (kd.toNat : Int)) := HP7.out.cell 1
  have d72 : w7.cell? ⟨w.heap.size, 2, none⟩ = some (.string tbl) := HP7.out.cell 2
  have d73 : w7.cell? ⟨w.heap.size, 3, none⟩ = some (.string col) := HP7.out.cell 3
  have g70 : w7.cell? ⟨w.heap.size + 1, 0, none⟩ = some (.int .u8 (k.toNat : Int)) := HV7.out.cell 0
  have g71 : w7.cell? ⟨w.heap.size + 1, 1, none⟩ = some (.int .i64 n) := HV7.out.cell 1
  have g72 : w7.cell? ⟨w.heap.size + 1, 2, none⟩ = some (.string s) := HV7.out.cell 2
  clear ho6 hb6 hc6 hm6 hl6 HP6 HV6 HB6 d60 d61 d62 d63 g60 g61 g62
  go_wp2_with fail
  refine (refCatKey_any t kd tbl w7 HT.out).mono ?_
  rintro e w8 ⟨v7, rfl, ho7, hb7⟩
  rw [← HQ3.out] at ho7 ⊢
  obtain ⟨A7, c7, rfl, -, hc7, hm7⟩ := own_form ho7
  have HR7 : Hid (Rb w8 w8.heap.size A7 p3.2.length p3.2) := Rb.own ho7
  have hl7 : p3.2.length ≤ maxLen := Nat.le_trans hc7 hm7
  have HL7 := hide hl7
  replace HR0 := hide (HR0.out.below hb7 (by omega))
  replace HR1 := hide (HR1.out.below hb7 (by omega))
  replace HR2 := hide (HR2.out.below hb7 (by omega))
  replace HR3 := hide (HR3.out.below hb7 (by omega))
  replace HR4 := hide (HR4.out.below hb7 (by omega))
  replace HR5 := hide (HR5.out.below hb7 (by omega))
  replace HR6 := hide (HR6.out.below hb7 (by omega))
  have HP8 := hide (HP7.out.below hb7 (by omega))
  have HV8 := hide (HV7.out.below hb7 (by omega))
  have HB8 := hide (HB7.out.trans (hb7.mono (by omega)))
  have hz8 := hb7.size
  have d80 : w8.cell? ⟨w.heap.size, 0, none⟩ = some (.int .i64 t) := HP8.out.cell 0
  have d81 : w8.cell? ⟨w.heap.size, 1, none⟩ = some (.int .u8 (kd.toNat : Int)) := HP8.out.cell 1
  have d82 : w8.cell? ⟨w.heap.size, 2, none⟩ = some (.string tbl) := HP8.out.cell 2
  have d83 : w8.cell? ⟨w.heap.size, 3, none⟩ = some (.string col) := HP8.out.cell 3
  have g80 : w8.cell? ⟨w.heap.size + 1, 0, none⟩ = some (.int .u8 (k.toNat : Int)) := HV8.out.cell 0
  have g81 : w8.cell? ⟨w.heap.size + 1, 1, none⟩ = some (.int .i64 n) := HV8.out.cell 1
  have g82 : w8.cell? ⟨w.heap.size + 1, 2, none⟩ = some (.string s) := HV8.out.cell 2
  clear ho7 hb7 hc7 hm7 hl7 HP7 HV7 HB7 d70 d71 d72 d73 g70 g71 g72
  have n0 : ((p0.1 : Int) != (p0.1 : Int)) = false := by simp
  have n1 : ((p1.1 : Int) != (p1.1 : Int)) = false := by simp
  have n2 : ((p2.1 : Int) != (p2.1 : Int)) = false := by simp
  have n3 : ((p3.1 : Int) != (p3.1 : Int)) = false := by simp
  go_wp2_with fail
  clear d80 d81 d82 d83 g80 g81 g82
  refine (sameBytes_any A0 A1 p0.2.length c0 p0.2.length c1 p0.2 p0.2 w8 _ _ HR0.out HR1.out HL0.out).mono ?_
  rintro e w' ⟨rfl, q8, rfl⟩
  rw [show (p0.2 == p0.2) = true from beq_self_eq_true _]
  obtain ⟨w9, hw9⟩ : ∃ x, x = w8.drewN q8 := ⟨_, rfl⟩
  rw [← hw9]
  replace HR0 := hide (rb_drew hw9 HR0.out)
  replace HR1 := hide (rb_drew hw9 HR1.out)
  replace HR2 := hide (rb_drew hw9 HR2.out)
  replace HR3 := hide (rb_drew hw9 HR3.out)
  replace HR4 := hide (rb_drew hw9 HR4.out)
  replace HR5 := hide (rb_drew hw9 HR5.out)
  replace HR6 := hide (rb_drew hw9 HR6.out)
  replace HR7 := hide (rb_drew hw9 HR7.out)
  have HB9 : Hid (Below w.heap.size w w9) := by rw [hw9]; exact below_drewN HB8.out q8
  have hz9 : w8.heap.size ≤ w9.heap.size := by rw [hw9]; exact Nat.le_refl _
  have HP9 := hide (blk_drew hw9 HP8.out)
  have HV9 := hide (blk_drew hw9 HV8.out)
  clear HP8 HV8
  clear hw9 HB8
  clear HR0 HR1
  go_wp2_with fail
  refine (sameBytes_any A2 A3 p1.2.length c2 p1.2.length c3 p1.2 p1.2 w9 _ _ HR2.out HR3.out HL2.out).mono ?_
  rintro e w' ⟨rfl, q9, rfl⟩
  rw [show (p1.2 == p1.2) = true from beq_self_eq_true _]
  obtain ⟨w10, hw10⟩ : ∃ x, x = w9.drewN q9 := ⟨_, rfl⟩
  rw [← hw10]
  replace HR2 := hide (rb_drew hw10 HR2.out)
  replace HR3 := hide (rb_drew hw10 HR3.out)
  replace HR4 := hide (rb_drew hw10 HR4.out)
  replace HR5 := hide (rb_drew hw10 HR5.out)
  replace HR6 := hide (rb_drew hw10 HR6.out)
  replace HR7 := hide (rb_drew hw10 HR7.out)
  have HB10 : Hid (Below w.heap.size w w10) := by rw [hw10]; exact below_drewN HB9.out q9
  have hz10 : w9.heap.size ≤ w10.heap.size := by rw [hw10]; exact Nat.le_refl _
  have HP10 := hide (blk_drew hw10 HP9.out)
  have HV10 := hide (blk_drew hw10 HV9.out)
  clear HP9 HV9
  clear hw10 HB9
  clear HR2 HR3
  go_wp2_with fail
  refine (sameBytes_any A4 A5 p2.2.length c4 p2.2.length c5 p2.2 p2.2 w10 _ _ HR4.out HR5.out HL4.out).mono ?_
  rintro e w' ⟨rfl, q10, rfl⟩
  rw [show (p2.2 == p2.2) = true from beq_self_eq_true _]
  obtain ⟨w11, hw11⟩ : ∃ x, x = w10.drewN q10 := ⟨_, rfl⟩
  rw [← hw11]
  replace HR4 := hide (rb_drew hw11 HR4.out)
  replace HR5 := hide (rb_drew hw11 HR5.out)
  replace HR6 := hide (rb_drew hw11 HR6.out)
  replace HR7 := hide (rb_drew hw11 HR7.out)
  have HB11 : Hid (Below w.heap.size w w11) := by rw [hw11]; exact below_drewN HB10.out q10
  have hz11 : w10.heap.size ≤ w11.heap.size := by rw [hw11]; exact Nat.le_refl _
  have HP11 := hide (blk_drew hw11 HP10.out)
  have HV11 := hide (blk_drew hw11 HV10.out)
  clear HP10 HV10
  clear hw11 HB10
  clear HR4 HR5
  go_wp2_with fail
  refine (sameBytes_any A6 A7 p3.2.length c6 p3.2.length c7 p3.2 p3.2 w11 _ _ HR6.out HR7.out HL6.out).mono ?_
  rintro e w' ⟨rfl, q11, rfl⟩
  rw [show (p3.2 == p3.2) = true from beq_self_eq_true _]
  obtain ⟨w12, hw12⟩ : ∃ x, x = w11.drewN q11 := ⟨_, rfl⟩
  rw [← hw12]
  replace HR6 := hide (rb_drew hw12 HR6.out)
  replace HR7 := hide (rb_drew hw12 HR7.out)
  have HB12 : Hid (Below w.heap.size w w12) := by rw [hw12]; exact below_drewN HB11.out q11
  have hz12 : w11.heap.size ≤ w12.heap.size := by rw [hw12]; exact Nat.le_refl _
  have HP12 := hide (blk_drew hw12 HP11.out)
  have HV12 := hide (blk_drew hw12 HV11.out)
  clear HP11 HV11
  clear hw12 HB11
  clear HR6 HR7
  obtain ⟨p4, hp4⟩ : ∃ p, p = Cell.rowsOf t tbl.data.toList := ⟨_, rfl⟩
  have HQ4 := hide hp4
  clear hp4
  obtain ⟨p5, hp5⟩ : ∃ p, p = Cell.catsOf t := ⟨_, rfl⟩
  have HQ5 := hide hp5
  clear hp5
  have d120 : w12.cell? ⟨w.heap.size, 0, none⟩ = some (.int .i64 t) := HP12.out.cell 0
  have d122 : w12.cell? ⟨w.heap.size, 2, none⟩ = some (.string tbl) := HP12.out.cell 2
  go_wp2_with fail
  refine (rows_any t tbl w12 HT.out).mono ?_
  rintro e w13 ⟨A12, c12, B12, e12, rfl, ho12, hx12, hb12⟩
  rw [← HQ4.out] at ho12 hx12 ⊢
  have HR12 : Hid (Rb w13 w13.heap.size A12 p4.2.1.length p4.2.1) := Rb.own ho12
  have HX12 : Hid (Rb w13 w13.heap.size B12 p4.2.2.length p4.2.2) := Rb.own hx12
  have HL12 : Hid (p4.2.1.length ≤ maxLen) := (by obtain ⟨_, _, _, _, h1, h2⟩ := own_form ho12; exact Nat.le_trans h1 h2)
  have HM12 : Hid (p4.2.2.length ≤ maxLen) := (by obtain ⟨_, _, _, _, h1, h2⟩ := own_form hx12; exact Nat.le_trans h1 h2)
  have HP13 := hide (HP12.out.below hb12 (by omega))
  have HV13 := hide (HV12.out.below hb12 (by omega))
  have HB13 := hide (HB12.out.trans (hb12.mono (by omega)))
  have hz13 := hb12.size
  clear d120 d122
  have d130 : w13.cell? ⟨w.heap.size, 0, none⟩ = some (.int .i64 t) := HP13.out.cell 0
  have d132 : w13.cell? ⟨w.heap.size, 2, none⟩ = some (.string tbl) := HP13.out.cell 2
  clear ho12 hx12 hb12 HP12 HV12 HB12
  go_wp2_with fail
  refine (refRows_any t tbl w13 HT.out).mono ?_
  rintro e w14 ⟨A13, c13, B13, e13, rfl, ho13, hx13, hb13⟩
  rw [← HQ4.out] at ho13 hx13 ⊢
  have HR13 : Hid (Rb w14 w14.heap.size A13 p4.2.1.length p4.2.1) := Rb.own ho13
  have HX13 : Hid (Rb w14 w14.heap.size B13 p4.2.2.length p4.2.2) := Rb.own hx13
  have HL13 : Hid (p4.2.1.length ≤ maxLen) := (by obtain ⟨_, _, _, _, h1, h2⟩ := own_form ho13; exact Nat.le_trans h1 h2)
  have HM13 : Hid (p4.2.2.length ≤ maxLen) := (by obtain ⟨_, _, _, _, h1, h2⟩ := own_form hx13; exact Nat.le_trans h1 h2)
  replace HR12 := hide (HR12.out.below hb13 (by omega))
  replace HX12 := hide (HX12.out.below hb13 (by omega))
  have HP14 := hide (HP13.out.below hb13 (by omega))
  have HV14 := hide (HV13.out.below hb13 (by omega))
  have HB14 := hide (HB13.out.trans (hb13.mono (by omega)))
  have hz14 := hb13.size
  clear d130 d132
  have d140 : w14.cell? ⟨w.heap.size, 0, none⟩ = some (.int .i64 t) := HP14.out.cell 0
  have d142 : w14.cell? ⟨w.heap.size, 2, none⟩ = some (.string tbl) := HP14.out.cell 2
  clear ho13 hx13 hb13 HP13 HV13 HB13
  go_wp2_with fail
  refine (cats_any t w14).mono ?_
  rintro e w15 ⟨A14, c14, B14, e14, rfl, ho14, hx14, hb14⟩
  rw [← HQ5.out] at ho14 hx14 ⊢
  have HR14 : Hid (Rb w15 w15.heap.size A14 p5.2.1.length p5.2.1) := Rb.own ho14
  have HX14 : Hid (Rb w15 w15.heap.size B14 p5.2.2.length p5.2.2) := Rb.own hx14
  have HL14 : Hid (p5.2.1.length ≤ maxLen) := (by obtain ⟨_, _, _, _, h1, h2⟩ := own_form ho14; exact Nat.le_trans h1 h2)
  have HM14 : Hid (p5.2.2.length ≤ maxLen) := (by obtain ⟨_, _, _, _, h1, h2⟩ := own_form hx14; exact Nat.le_trans h1 h2)
  replace HR12 := hide (HR12.out.below hb14 (by omega))
  replace HX12 := hide (HX12.out.below hb14 (by omega))
  replace HR13 := hide (HR13.out.below hb14 (by omega))
  replace HX13 := hide (HX13.out.below hb14 (by omega))
  have HP15 := hide (HP14.out.below hb14 (by omega))
  have HV15 := hide (HV14.out.below hb14 (by omega))
  have HB15 := hide (HB14.out.trans (hb14.mono (by omega)))
  have hz15 := hb14.size
  clear d140 d142
  have d150 : w15.cell? ⟨w.heap.size, 0, none⟩ = some (.int .i64 t) := HP15.out.cell 0
  have d152 : w15.cell? ⟨w.heap.size, 2, none⟩ = some (.string tbl) := HP15.out.cell 2
  clear ho14 hx14 hb14 HP14 HV14 HB14
  go_wp2_with fail
  refine (refCats_any t w15).mono ?_
  rintro e w16 ⟨A15, c15, B15, e15, rfl, ho15, hx15, hb15⟩
  rw [← HQ5.out] at ho15 hx15 ⊢
  have HR15 : Hid (Rb w16 w16.heap.size A15 p5.2.1.length p5.2.1) := Rb.own ho15
  have HX15 : Hid (Rb w16 w16.heap.size B15 p5.2.2.length p5.2.2) := Rb.own hx15
  have HL15 : Hid (p5.2.1.length ≤ maxLen) := (by obtain ⟨_, _, _, _, h1, h2⟩ := own_form ho15; exact Nat.le_trans h1 h2)
  have HM15 : Hid (p5.2.2.length ≤ maxLen) := (by obtain ⟨_, _, _, _, h1, h2⟩ := own_form hx15; exact Nat.le_trans h1 h2)
  replace HR12 := hide (HR12.out.below hb15 (by omega))
  replace HX12 := hide (HX12.out.below hb15 (by omega))
  replace HR13 := hide (HR13.out.below hb15 (by omega))
  replace HX13 := hide (HX13.out.below hb15 (by omega))
  replace HR14 := hide (HR14.out.below hb15 (by omega))
  replace HX14 := hide (HX14.out.below hb15 (by omega))
  have HP16 := hide (HP15.out.below hb15 (by omega))
  have HV16 := hide (HV15.out.below hb15 (by omega))
  have HB16 := hide (HB15.out.trans (hb15.mono (by omega)))
  have hz16 := hb15.size
  clear d150 d152
  have d160 : w16.cell? ⟨w.heap.size, 0, none⟩ = some (.int .i64 t) := HP16.out.cell 0
  have d162 : w16.cell? ⟨w.heap.size, 2, none⟩ = some (.string tbl) := HP16.out.cell 2
  clear ho15 hx15 hb15 HP15 HV15 HB15
  have n4 : ((p4.1 : Int) == (p4.1 : Int)) = true := by simp
  have n5 : ((p5.1 : Int) == (p5.1 : Int)) = true := by simp
  go_wp2_with fail
  clear d160 d162 HP16 HV16
  refine (sameBytes_any A12 A13 p4.2.1.length c12 p4.2.1.length c13 p4.2.1 p4.2.1 w16 _ _ HR12.out HR13.out HL12.out).mono ?_
  rintro e w' ⟨rfl, q16, rfl⟩
  rw [show (p4.2.1 == p4.2.1) = true from beq_self_eq_true _]
  obtain ⟨w17, hw17⟩ : ∃ x, x = w16.drewN q16 := ⟨_, rfl⟩
  rw [← hw17]
  replace HX12 := hide (rb_drew hw17 HX12.out)
  replace HX13 := hide (rb_drew hw17 HX13.out)
  replace HR14 := hide (rb_drew hw17 HR14.out)
  replace HX14 := hide (rb_drew hw17 HX14.out)
  replace HR15 := hide (rb_drew hw17 HR15.out)
  replace HX15 := hide (rb_drew hw17 HX15.out)
  have HB17 : Hid (Below w.heap.size w w17) := by rw [hw17]; exact below_drewN HB16.out q16
  have hz17 : w16.heap.size ≤ w17.heap.size := by rw [hw17]; exact Nat.le_refl _
  clear hw17 HB16 HR12 HR13
  go_wp2_with fail
  refine (sameBytes_any B12 B13 p4.2.2.length e12 p4.2.2.length e13 p4.2.2 p4.2.2 w17 _ _ HX12.out HX13.out HM12.out).mono ?_
  rintro e w' ⟨rfl, q17, rfl⟩
  rw [show (p4.2.2 == p4.2.2) = true from beq_self_eq_true _]
  obtain ⟨w18, hw18⟩ : ∃ x, x = w17.drewN q17 := ⟨_, rfl⟩
  rw [← hw18]
  replace HR14 := hide (rb_drew hw18 HR14.out)
  replace HX14 := hide (rb_drew hw18 HX14.out)
  replace HR15 := hide (rb_drew hw18 HR15.out)
  replace HX15 := hide (rb_drew hw18 HX15.out)
  have HB18 : Hid (Below w.heap.size w w18) := by rw [hw18]; exact below_drewN HB17.out q17
  have hz18 : w17.heap.size ≤ w18.heap.size := by rw [hw18]; exact Nat.le_refl _
  clear hw18 HB17 HX12 HX13
  go_wp2_with fail
  refine (sameBytes_any A14 A15 p5.2.1.length c14 p5.2.1.length c15 p5.2.1 p5.2.1 w18 _ _ HR14.out HR15.out HL14.out).mono ?_
  rintro e w' ⟨rfl, q18, rfl⟩
  rw [show (p5.2.1 == p5.2.1) = true from beq_self_eq_true _]
  obtain ⟨w19, hw19⟩ : ∃ x, x = w18.drewN q18 := ⟨_, rfl⟩
  rw [← hw19]
  replace HX14 := hide (rb_drew hw19 HX14.out)
  replace HX15 := hide (rb_drew hw19 HX15.out)
  have HB19 : Hid (Below w.heap.size w w19) := by rw [hw19]; exact below_drewN HB18.out q18
  have hz19 : w18.heap.size ≤ w19.heap.size := by rw [hw19]; exact Nat.le_refl _
  clear hw19 HB18 HR14 HR15
  go_wp2_with fail
  refine (sameBytes_any B14 B15 p5.2.2.length e14 p5.2.2.length e15 p5.2.2 p5.2.2 w19 _ _ HX14.out HX15.out HM14.out).mono ?_
  rintro e w' ⟨rfl, q19, rfl⟩
  rw [show (p5.2.2 == p5.2.2) = true from beq_self_eq_true _]
  obtain ⟨w20, hw20⟩ : ∃ x, x = w19.drewN q19 := ⟨_, rfl⟩
  rw [← hw20]
  have HB20 : Hid (Below w.heap.size w w20) := by rw [hw20]; exact below_drewN HB19.out q19
  have hz20 : w19.heap.size ≤ w20.heap.size := by rw [hw20]; exact Nat.le_refl _
  clear hw20 HB19 HX14 HX15
  go_wp2_with fail
  refine (awake_any w20).mono ?_
  rintro e w21 ⟨rfl, hbe⟩
  have HBE := hide (HB20.out.trans (hbe.mono (by omega)))
  clear hbe
  go_wp2_with fail
  go_ret
  exact ⟨rfl, HBE.out⟩
end Go.Proofs.Ytccapkkaeljnfaa
