/-
  The walk of chancerylaw18.CellApart: it returns true. Conditions: the numbers are of 64 bits, texts' lengths are ints.
-/
import Derived.Test.YtccapkkaeljnfaaApartMath
import Derived.Test.YtccapkkaeljnfaaAwake18
import Derived.RegionTactic
import Derived.BigRegion
namespace Go.Proofs.Ytccapkkaeljnfaa
open Go.RowKit

def Boxes (w0 : World) (va vb : Array Value) (a b : Value) (wx : World) : Prop :=
  ∃ gv gw, a = .pointer (some ⟨gv, 0, none⟩) ∧ b = .pointer (some ⟨gw, 0, none⟩) ∧ Blk wx gv 36 va ∧ Blk wx gw 36 vb ∧ Below w0.heap.size w0 wx ∧ w0.heap.size ≤ gv ∧ w0.heap.size ≤ gw ∧ w0.heap.size + 2 = wx.heap.size

theorem BBE.is {w w' : World} {r : Nat × List UInt8 × List UInt8} {e : Ending} {n : Nat} {l m : List UInt8} (h : BBE w r e w') (hr : r = (n, l, m)) : ∃ A c A' c', e = .returned (.tuple #[.slice A l.length c, .slice A' m.length c', .int .i64 (n : Int)]) ∧ w'.ownsRow w.heap.size 5 1 (.slice A l.length c) l.length (l.map B8) ∧ w'.ownsRow w.heap.size 5 1 (.slice A' m.length c') m.length (m.map B8) ∧ Below w.heap.size w w' := by
  subst hr
  exact h
theorem boxes_ab (w0 : World) (va vb : Array Value) : Boxes w0 va vb (.pointer (some ⟨w0.heap.size, 0, none⟩)) (.pointer (some ⟨w0.heap.size + 1, 0, none⟩)) (((w0.alloc (.cells va 36)).alloc (.cells vb 36)).drew) := by
  refine ⟨_, _, rfl, rfl, (Blk.new w0 _ _).alloc _, ?_, (((Below.refl _ _).alloc (Nat.le_refl _) _).alloc (by simp) _).drew, Nat.le_refl _, by omega, by simp⟩
  have := Blk.new (w0.alloc (.cells va 36)) 36 vb
  rw [World.size_alloc] at this
  exact this
theorem boxes_ba (w0 : World) (va vb : Array Value) : Boxes w0 va vb (.pointer (some ⟨w0.heap.size + 1, 0, none⟩)) (.pointer (some ⟨w0.heap.size, 0, none⟩)) (((w0.alloc (.cells vb 36)).alloc (.cells va 36)).drew) := by
  refine ⟨_, _, rfl, rfl, ?_, (Blk.new w0 _ _).alloc _, (((Below.refl _ _).alloc (Nat.le_refl _) _).alloc (by simp) _).drew, by omega, Nat.le_refl _, by simp⟩
  have := Blk.new (w0.alloc (.cells vb 36)) 36 va
  rw [World.size_alloc] at this
  exact this
theorem key_cells {w : World} {g : Nat} {k : UInt8} {n : Int} {s : ByteArray} (h : Blk w g 36 #[.int .u8 (k.toNat : Int), .int .i64 n, .string s]) : w.cell? ⟨g, 0, none⟩ = some (.int .u8 (k.toNat : Int)) ∧ w.cell? ⟨g, 1, none⟩ = some (.int .i64 n) ∧ w.cell? ⟨g, 2, none⟩ = some (.string s) := ⟨h.cell 0, h.cell 1, h.cell 2⟩
theorem place_cells {w : World} {g : Nat} {k : UInt8} {n : Int} {s s' : ByteArray} (h : Blk w g 40 #[.int .i64 n, .int .u8 (k.toNat : Int), .string s, .string s']) : w.cell? ⟨g, 0, none⟩ = some (.int .i64 n) ∧ w.cell? ⟨g, 2, none⟩ = some (.string s) ∧ w.cell? ⟨g, 3, none⟩ = some (.string s') := ⟨h.cell 0, h.cell 2, h.cell 3⟩

set_option maxRecDepth 100000 in
set_option maxHeartbeats 8000000 in
theorem cellApart_any (t : Int) (kd : UInt8) (tbl col : ByteArray) (t' : Int) (kd' : UInt8) (tbl' col' : ByteArray) (k : UInt8) (n : Int) (s : ByteArray) (k' : UInt8) (n' : Int) (s' : ByteArray) (w : World)
    (htb : tbl.size ≤ maxLen) (hco : col.size ≤ maxLen) (_u1 : -9223372036854775808 ≤ t) (_u2 : t ≤ 9223372036854775807) (htb' : tbl'.size ≤ maxLen) (hco' : col'.size ≤ maxLen) (_u3 : -9223372036854775808 ≤ t') (_u4 : t' ≤ 9223372036854775807)
    (_u5 : s.size ≤ maxLen) (ha1 : -9223372036854775808 ≤ n) (ha2 : n ≤ 9223372036854775807) (_u6 : s'.size ≤ maxLen) (hb1 : -9223372036854775808 ≤ n') (hb2 : n' ≤ 9223372036854775807) :
    Calls Try.prog 6 #[.agg #[.int .i64 t, .int .u8 (kd.toNat : Int), .string tbl, .string col], .agg #[.int .i64 t', .int .u8 (kd'.toNat : Int), .string tbl', .string col'], .agg #[.int .u8 (k.toNat : Int), .int .i64 n, .string s, .int .u8 (k'.toNat : Int), .int .i64 n', .string s']] w fun e w' => e = .returned (.bool true) ∧ Below w.heap.size w w' := by
  have HBa : Hid (Bd ⟨k, n, s⟩) := ⟨ha1, ha2⟩
  have HBb : Hid (Bd ⟨k', n', s'⟩) := ⟨hb1, hb2⟩
  have HT := hide htb
  have HC := hide hco
  have HT' := hide htb'
  have HC' := hide hco'
  clear _u1 _u2 _u3 _u4 _u5 _u6 ha1 ha2 hb1 hb2 htb hco htb' hco'
  obtain ⟨ea, la, hpa⟩ : ∃ p1 kb, Cell.rowKey t tbl.data.toList ⟨k, n, s⟩ = (p1, kb) := ⟨_, _, rfl⟩
  have HKa := hide hpa
  clear hpa
  obtain ⟨eb, lb, hpb⟩ : ∃ p1 kb, Cell.rowKey t' tbl'.data.toList ⟨k', n', s'⟩ = (p1, kb) := ⟨_, _, rfl⟩
  have HKb := hide hpb
  clear hpb
  obtain ⟨ec, lc, hpc⟩ : ∃ p1 kb, Cell.uniqueKey t tbl.data.toList col.data.toList ⟨k, n, s⟩ = (p1, kb) := ⟨_, _, rfl⟩
  have HKc := hide hpc
  clear hpc
  obtain ⟨ed, ld, hpd⟩ : ∃ p1 kb, Cell.uniqueKey t' tbl'.data.toList col'.data.toList ⟨k', n', s'⟩ = (p1, kb) := ⟨_, _, rfl⟩
  have HKd := hide hpd
  clear hpd
  go_enter Try.func6, Try.ntmps6
  go_upto_region 1 with fail
  obtain ⟨w0, hw0⟩ : ∃ w0, w0 = ((w.alloc (.cells #[.int .i64 t, .int .u8 (kd.toNat : Int), .string tbl, .string col] 40)).alloc (.cells #[.int .i64 t', .int .u8 (kd'.toNat : Int), .string tbl', .string col'] 40)).alloc (.cells #[.int .u8 (k.toNat : Int), .int .i64 n, .string s, .int .u8 (k'.toNat : Int), .int .i64 n', .string s'] 50) := ⟨_, rfl⟩
  rw [← hw0]
  have HP : Hid (Blk w0 w.heap.size 40 #[.int .i64 t, .int .u8 (kd.toNat : Int), .string tbl, .string col]) := by rw [hw0]; exact ((Blk.new w _ _).alloc _).alloc _
  have HV : Hid (Blk w0 (w.heap.size + 1) 40 #[.int .i64 t', .int .u8 (kd'.toNat : Int), .string tbl', .string col']) := by
    rw [hw0]
    refine Blk.alloc ?_ _
    have := Blk.new (w.alloc (.cells #[.int .i64 t, .int .u8 (kd.toNat : Int), .string tbl, .string col] 40)) 40 #[.int .i64 t', .int .u8 (kd'.toNat : Int), .string tbl', .string col']
    simpa using this
  have HTw : Hid (Blk w0 (w.heap.size + 1 + 1) 50 #[.int .u8 (k.toNat : Int), .int .i64 n, .string s, .int .u8 (k'.toNat : Int), .int .i64 n', .string s']) := by
    rw [hw0]
    have := Blk.new ((w.alloc (.cells #[.int .i64 t, .int .u8 (kd.toNat : Int), .string tbl, .string col] 40)).alloc (.cells #[.int .i64 t', .int .u8 (kd'.toNat : Int), .string tbl', .string col'] 40)) 50 #[.int .u8 (k.toNat : Int), .int .i64 n, .string s, .int .u8 (k'.toNat : Int), .int .i64 n', .string s']
    show Blk _ _ _ _
    simpa using this
  have HB0 : Hid (Below w.heap.size w w0) := by rw [hw0]; exact (((Below.refl _ _).alloc (Nat.le_refl _) _).alloc (by simp) _).alloc (by simp; omega) _
  have hz0 : w.heap.size + 3 ≤ w0.heap.size := by rw [hw0]; simp
  have hz0' : w.heap.size + 1 + 1 < w0.heap.size := by omega
  have hz0b : w.heap.size + 1 + 1 < w0.heap.size + 1 := by omega
  have hz0c : w.heap.size + 1 < w0.heap.size := by omega
  clear hw0
  have b0 : w0.cell? ⟨w.heap.size + 1 + 1, 0, none⟩ = some (.int .u8 (k.toNat : Int)) := HTw.out.cell 0
  have b1 : w0.cell? ⟨w.heap.size + 1 + 1, 1, none⟩ = some (.int .i64 n) := HTw.out.cell 1
  have b2 : w0.cell? ⟨w.heap.size + 1 + 1, 2, none⟩ = some (.string s) := HTw.out.cell 2
  have b3 : w0.cell? ⟨w.heap.size + 1 + 1, 3, none⟩ = some (.int .u8 (k'.toNat : Int)) := HTw.out.cell 3
  have b4 : w0.cell? ⟨w.heap.size + 1 + 1, 4, none⟩ = some (.int .i64 n') := HTw.out.cell 4
  have b5 : w0.cell? ⟨w.heap.size + 1 + 1, 5, none⟩ = some (.string s') := HTw.out.cell 5
  go_cut [7, 8] (fun a b wx => Boxes w0 #[.int .u8 (k.toNat : Int), .int .i64 n, .string s] #[.int .u8 (k'.toNat : Int), .int .i64 n', .string s'] a b wx)
  case first =>
    go_region
    all_goals (go_wp2_with fail)
    all_goals go_meet
    all_goals (first | exact boxes_ab _ _ _ | exact boxes_ba _ _ _)
  case rest =>
    obtain ⟨gv, gw, rfl, rfl, hbv, hbw, hb1, hgv, hgw, hsz1⟩ := hcut
    obtain ⟨w1, hw1⟩ : ∃ x, x = wc := ⟨_, rfl⟩
    rw [← hw1] at hbv hbw hb1 hsz1 ⊢
    have HVa := hide hbv
    have HVb := hide hbw
    have hgv1 := hbv.lt
    have hgw1 := hbw.lt
    clear hw1 hbv hbw hsz1 b0 b1 b2 b3 b4 b5 HTw hz0b
    replace HP := hide (HP.out.below hb1 (by omega))
    replace HV := hide (HV.out.below hb1 (by omega))
    have HB1 := hide (HB0.out.trans (hb1.mono (by omega)))
    have hz1 := hb1.size
    clear hb1 HB0
    obtain ⟨dp0, dp2, dp3⟩ := place_cells HP.out
    obtain ⟨dv0, dv1, dv2⟩ := key_cells HVa.out
    go_wp2_with fail
    clear dp0 dp2 dp3 dv0 dv1 dv2
    with_reducible refine (rowKey_any t tbl k n s w1 HT.out).mono ?_
    rintro e w2 hpost
    obtain ⟨Aa, ca, rfl, hoa, hb2, hla, hma⟩ := hpost.is HKa.out
    clear hpost
    have HRa := hide (Rb.own hoa)
    have HLa := hide hla
    clear hoa hma hla
    replace HP := hide (HP.out.below hb2 (by omega))
    replace HV := hide (HV.out.below hb2 (by omega))
    replace HVa := hide (HVa.out.below hb2 (by omega))
    replace HVb := hide (HVb.out.below hb2 (by omega))
    have HB2 := hide (HB1.out.trans (hb2.mono (by omega)))
    have hz2 := hb2.size
    clear hb2 HB1
    obtain ⟨dq0, dq2, dq3⟩ := place_cells HV.out
    obtain ⟨dw0, dw1, dw2⟩ := key_cells HVb.out
    go_wp2_with fail
    clear dq0 dq2 dq3 dw0 dw1 dw2
    with_reducible refine (rowKey_any t' tbl' k' n' s' w2 HT'.out).mono ?_
    rintro e w3 hpost
    obtain ⟨Ab, cb, rfl, hob, hb3, hlb, hmb⟩ := hpost.is HKb.out
    clear hpost
    have HRb := hide (Rb.own hob)
    have HLb := hide hlb
    clear hob hmb hlb
    replace HP := hide (HP.out.below hb3 (by omega))
    replace HV := hide (HV.out.below hb3 (by omega))
    replace HVa := hide (HVa.out.below hb3 (by omega))
    replace HVb := hide (HVb.out.below hb3 (by omega))
    replace HRa := hide (HRa.out.below hb3 (by omega))
    have HB3 := hide (HB2.out.trans (hb3.mono (by omega)))
    have hz3 := hb3.size
    clear hb3 HB2
    obtain ⟨dp0, dp2, dp3⟩ := place_cells HP.out
    obtain ⟨dv0, dv1, dv2⟩ := key_cells HVa.out
    go_wp2_with fail
    clear dp0 dp2 dp3 dv0 dv1 dv2
    with_reducible refine (uniqueKey_any t tbl col k n s w3 HT.out HC.out).mono ?_
    rintro e w4 hpost
    obtain ⟨Ac, cc, rfl, hoc, hb4, hlc, hmc⟩ := hpost.is HKc.out
    clear hpost
    have HRc := hide (Rb.own hoc)
    have HLc := hide hlc
    clear hoc hmc hlc
    replace HP := hide (HP.out.below hb4 (by omega))
    replace HV := hide (HV.out.below hb4 (by omega))
    replace HVa := hide (HVa.out.below hb4 (by omega))
    replace HVb := hide (HVb.out.below hb4 (by omega))
    replace HRa := hide (HRa.out.below hb4 (by omega))
    replace HRb := hide (HRb.out.below hb4 (by omega))
    have HB4 := hide (HB3.out.trans (hb4.mono (by omega)))
    have hz4 := hb4.size
    clear hb4 HB3
    obtain ⟨dq0, dq2, dq3⟩ := place_cells HV.out
    obtain ⟨dw0, dw1, dw2⟩ := key_cells HVb.out
    go_wp2_with fail
    clear dq0 dq2 dq3 dw0 dw1 dw2
    with_reducible refine (uniqueKey_any t' tbl' col' k' n' s' w4 HT'.out HC'.out).mono ?_
    rintro e w5 hpost
    obtain ⟨Ad, cd, rfl, hod, hb5, hld, hmd⟩ := hpost.is HKd.out
    clear hpost
    have HRd := hide (Rb.own hod)
    have HLd := hide hld
    clear hod hmd hld
    replace HP := hide (HP.out.below hb5 (by omega))
    replace HV := hide (HV.out.below hb5 (by omega))
    replace HVa := hide (HVa.out.below hb5 (by omega))
    replace HVb := hide (HVb.out.below hb5 (by omega))
    replace HRa := hide (HRa.out.below hb5 (by omega))
    replace HRb := hide (HRb.out.below hb5 (by omega))
    replace HRc := hide (HRc.out.below hb5 (by omega))
    have HB5 := hide (HB4.out.trans (hb5.mono (by omega)))
    have hz5 := hb5.size
    clear hb5 HB4
    by_cases ha : ea = 0
    rotate_left
    · have t1 : ((ea : Int) != 0) = true := by simp; exact ha
      clear ha
      go_wp2_with fail
      with_reducible refine (awake_any w5).mono ?_
      rintro e w6 ⟨rfl, hb6⟩
      replace HP := hide (HP.out.below hb6 (by omega))
      replace HV := hide (HV.out.below hb6 (by omega))
      replace HVa := hide (HVa.out.below hb6 (by omega))
      replace HVb := hide (HVb.out.below hb6 (by omega))
      replace HRa := hide (HRa.out.below hb6 (by omega))
      replace HRb := hide (HRb.out.below hb6 (by omega))
      replace HRc := hide (HRc.out.below hb6 (by omega))
      replace HRd := hide (HRd.out.below hb6 (by omega))
      have HB6 := hide (HB5.out.trans (hb6.mono (by omega)))
      have hz6 := hb6.size
      clear hb6 HB5
      go_wp2_with fail
      go_ret
      exact ⟨rfl, HB6.out⟩
    subst ha
    by_cases hb : eb = 0
    rotate_left
    · have t1 : ((eb : Int) != 0) = true := by simp; exact hb
      clear hb
      go_wp2_with fail
      with_reducible refine (awake_any w5).mono ?_
      rintro e w6 ⟨rfl, hb6⟩
      replace HP := hide (HP.out.below hb6 (by omega))
      replace HV := hide (HV.out.below hb6 (by omega))
      replace HVa := hide (HVa.out.below hb6 (by omega))
      replace HVb := hide (HVb.out.below hb6 (by omega))
      replace HRa := hide (HRa.out.below hb6 (by omega))
      replace HRb := hide (HRb.out.below hb6 (by omega))
      replace HRc := hide (HRc.out.below hb6 (by omega))
      replace HRd := hide (HRd.out.below hb6 (by omega))
      have HB6 := hide (HB5.out.trans (hb6.mono (by omega)))
      have hz6 := hb6.size
      clear hb6 HB5
      go_wp2_with fail
      go_ret
      exact ⟨rfl, HB6.out⟩
    subst hb
    by_cases hc : ec = 0
    rotate_left
    · have t1 : ((ec : Int) != 0) = true := by simp; exact hc
      clear hc
      go_wp2_with fail
      with_reducible refine (awake_any w5).mono ?_
      rintro e w6 ⟨rfl, hb6⟩
      replace HP := hide (HP.out.below hb6 (by omega))
      replace HV := hide (HV.out.below hb6 (by omega))
      replace HVa := hide (HVa.out.below hb6 (by omega))
      replace HVb := hide (HVb.out.below hb6 (by omega))
      replace HRa := hide (HRa.out.below hb6 (by omega))
      replace HRb := hide (HRb.out.below hb6 (by omega))
      replace HRc := hide (HRc.out.below hb6 (by omega))
      replace HRd := hide (HRd.out.below hb6 (by omega))
      have HB6 := hide (HB5.out.trans (hb6.mono (by omega)))
      have hz6 := hb6.size
      clear hb6 HB5
      go_wp2_with fail
      go_ret
      exact ⟨rfl, HB6.out⟩
    subst hc
    by_cases hd : ed = 0
    rotate_left
    · have t1 : ((ed : Int) != 0) = true := by simp; exact hd
      clear hd
      go_wp2_with fail
      with_reducible refine (awake_any w5).mono ?_
      rintro e w6 ⟨rfl, hb6⟩
      replace HP := hide (HP.out.below hb6 (by omega))
      replace HV := hide (HV.out.below hb6 (by omega))
      replace HVa := hide (HVa.out.below hb6 (by omega))
      replace HVb := hide (HVb.out.below hb6 (by omega))
      replace HRa := hide (HRa.out.below hb6 (by omega))
      replace HRb := hide (HRb.out.below hb6 (by omega))
      replace HRc := hide (HRc.out.below hb6 (by omega))
      replace HRd := hide (HRd.out.below hb6 (by omega))
      have HB6 := hide (HB5.out.trans (hb6.mono (by omega)))
      have hz6 := hb6.size
      clear hb6 HB5
      go_wp2_with fail
      go_ret
      exact ⟨rfl, HB6.out⟩
    subst hd
    have HAB := hide (bool_of (apart_rows HKa.out HKb.out HBa.out HBb.out))
    have HCD := hide (bool_of (apart_uniques HKc.out HKd.out HBa.out HBb.out))
    have HAC := hide (apart_kinds HKa.out HKc.out)
    have hla := row_short HKa.out
    have hlc := unique_short HKc.out
    have HRw := hide (rows_form HKa.out)
    have HIn := hide (rows_in HKa.out HKb.out)
    have HO1 := hide (rows_out (t := t) (tbl := tbl.data.toList) HKd.out)
    have HO2 := hide (rows_out2 (t := t) (tbl := tbl.data.toList) HKd.out)
    obtain ⟨from_, hfrom⟩ : ∃ x, x = 114 :: Cell.byteOf t.toNat :: (tbl.data.toList ++ [0]) := ⟨_, rfl⟩
    obtain ⟨to_, hto⟩ : ∃ x, x = 114 :: Cell.byteOf t.toNat :: (tbl.data.toList ++ [1]) := ⟨_, rfl⟩
    rw [← hfrom, ← hto] at HRw HIn
    rw [← hto] at HO1
    rw [← hfrom] at HO2
    have HFr := hide hfrom
    clear hfrom hto
    have hmx : max (la.length : Int) (lc.length : Int) ≤ 128 := by omega
    obtain ⟨qv, hqv⟩ : ∃ q, q = vbeq ⟨k, n, s⟩ ⟨k', n', s'⟩ := ⟨_, rfl⟩
    have e1 : ∀ w, (binOp .eql 36 (.agg #[.int .u8 (k.toNat : Int), .int .i64 n, .string s]) (.agg #[.int .u8 (k'.toNat : Int), .int .i64 n', .string s'])).run Try.prog w = .ok (.bool qv) w := by
      intro w
      rw [hqv]
      exact eqlV w ⟨k, n, s⟩ ⟨k', n', s'⟩
    have e2 := guardV
    have HQV := hide hqv
    clear hqv
    by_cases ht : t = t'
    rotate_left
    · have tt : (t == t') = false := by simpa using ht
      have HNt := hide ht
      clear ht
      have HP1 : Hid (lb.isPrefixOf la = false) := HAB.out.2 (by rintro ⟨⟨e1, e2⟩, e3⟩; exact HNt.out e1)
      have HP2 : Hid (ld.isPrefixOf lc = false) := HCD.out.2 (by rintro ⟨⟨⟨e1, e2⟩, e4⟩, e3⟩; exact HNt.out e1)
      obtain ⟨c1, hc1⟩ : ∃ x, x = cmpB from_ lb := ⟨_, rfl⟩
      obtain ⟨c2, hc2⟩ : ∃ x, x = cmpB lb to_ := ⟨_, rfl⟩
      obtain ⟨c3, hc3⟩ : ∃ x, x = cmpB from_ ld := ⟨_, rfl⟩
      obtain ⟨c4, hc4⟩ : ∃ x, x = cmpB ld to_ := ⟨_, rfl⟩
      have hu3 : c3 ≤ 0 := by rw [hc3]; exact HO2.out
      have hu4 : decide (c4 < 0) = false := by rw [hc4]; exact decide_eq_false HO1.out
      have hnot : ¬ (c1 ≤ 0 ∧ c2 < 0) := by rw [hc1, hc2, HIn.out]; rintro ⟨e1, e2⟩; exact HNt.out e1
      have HC1 := hide hc1
      have HC2 := hide hc2
      have HC3 := hide hc3
      have HC4 := hide hc4
      clear hc1 hc2 hc3 hc4
      obtain ⟨dp0, dp2, dp3⟩ := place_cells HP.out
      obtain ⟨dq0, dq2, dq3⟩ := place_cells HV.out
      obtain ⟨dv0, dv1, dv2⟩ := key_cells HVa.out
      obtain ⟨dw0, dw1, dw2⟩ := key_cells HVb.out
      go_wp2_with fail
      with_reducible refine (hasPrefix_any Aa Ab la.length ca lb.length cb la lb w5 _ _ HRa.out HRb.out HLa.out).mono ?_
      rintro e w' ⟨rfl, rfl⟩
      rw [HP1.out]
      go_wp2_with fail
      with_reducible refine (hasPrefix_any Ac Ad lc.length cc ld.length cd lc ld w5 _ _ HRc.out HRd.out HLc.out).mono ?_
      rintro e w' ⟨rfl, rfl⟩
      rw [HP2.out]
      go_wp2_with fail
      with_reducible refine (hasPrefix_any Aa Ac la.length ca lc.length cc la lc w5 _ _ HRa.out HRc.out HLa.out).mono ?_
      rintro e w' ⟨rfl, rfl⟩
      rw [HAC.out.1]
      go_wp2_with fail
      with_reducible refine (hasPrefix_any Ac Aa lc.length cc la.length ca lc la w5 _ _ HRc.out HRa.out HLc.out).mono ?_
      rintro e w' ⟨rfl, rfl⟩
      rw [HAC.out.2]
      go_wp2_with fail
      all_goals
        clear dp0 dp2 dp3 dq0 dq2 dq3 dv0 dv1 dv2 dw0 dw1 dw2
        with_reducible refine (rows_any t tbl w5 HT.out).mono ?_
        rintro e w6 hpost
        obtain ⟨AF, cF, AT, cT, rfl, hoF, hoT, hb6⟩ := hpost.is HRw.out
        clear hpost
        have HF := hide (Rb.own hoF)
        have HTo := hide (Rb.own hoT)
        clear hoF hoT
        replace HP := hide (HP.out.below hb6 (by omega))
        replace HV := hide (HV.out.below hb6 (by omega))
        replace HVa := hide (HVa.out.below hb6 (by omega))
        replace HVb := hide (HVb.out.below hb6 (by omega))
        replace HRa := hide (HRa.out.below hb6 (by omega))
        replace HRb := hide (HRb.out.below hb6 (by omega))
        replace HRc := hide (HRc.out.below hb6 (by omega))
        replace HRd := hide (HRd.out.below hb6 (by omega))
        have HB6 := hide (HB5.out.trans (hb6.mono (by omega)))
        have hz6 := hb6.size
        clear hb6 HB5
        go_wp2_with fail
        with_reducible refine (bcompare_any AF Ab from_.length cF lb.length cb from_ lb w6 _ _ HF.out HRb.out).mono ?_
        rintro e w' ⟨rfl, rfl⟩
        rw [← HC1.out]
        by_cases hcc : c1 ≤ 0
        · have hu2 : decide (c2 < 0) = false := decide_eq_false fun h => hnot ⟨hcc, h⟩
          clear hnot
          go_wp2_with fail
          with_reducible refine (bcompare_any Ab AT lb.length cb to_.length cT lb to_ w6 _ _ HRb.out HTo.out).mono ?_
          rintro e w' ⟨rfl, rfl⟩
          rw [← HC2.out]
          go_wp2_with fail
          with_reducible refine (bcompare_any AF Ad from_.length cF ld.length cd from_ ld w6 _ _ HF.out HRd.out).mono ?_
          rintro e w' ⟨rfl, rfl⟩
          rw [← HC3.out]
          go_wp2_with fail
          with_reducible refine (bcompare_any Ad AT ld.length cd to_.length cT ld to_ w6 _ _ HRd.out HTo.out).mono ?_
          rintro e w' ⟨rfl, rfl⟩
          rw [← HC4.out]
          go_wp2_with fail
          with_reducible refine (awake_any w6).mono ?_
          rintro e w7 ⟨rfl, hb7⟩
          replace HP := hide (HP.out.below hb7 (by omega))
          replace HV := hide (HV.out.below hb7 (by omega))
          replace HVa := hide (HVa.out.below hb7 (by omega))
          replace HVb := hide (HVb.out.below hb7 (by omega))
          replace HRa := hide (HRa.out.below hb7 (by omega))
          replace HRb := hide (HRb.out.below hb7 (by omega))
          replace HRc := hide (HRc.out.below hb7 (by omega))
          replace HRd := hide (HRd.out.below hb7 (by omega))
          replace HF := hide (HF.out.below hb7 (by omega))
          replace HTo := hide (HTo.out.below hb7 (by omega))
          have HB7 := hide (HB6.out.trans (hb7.mono (by omega)))
          have hz7 := hb7.size
          clear hb7 HB6
          go_wp2_with fail
          go_ret
          exact ⟨rfl, HB7.out⟩
        · clear hnot
          go_wp2_with fail
          with_reducible refine (bcompare_any AF Ad from_.length cF ld.length cd from_ ld w6 _ _ HF.out HRd.out).mono ?_
          rintro e w' ⟨rfl, rfl⟩
          rw [← HC3.out]
          go_wp2_with fail
          with_reducible refine (bcompare_any Ad AT ld.length cd to_.length cT ld to_ w6 _ _ HRd.out HTo.out).mono ?_
          rintro e w' ⟨rfl, rfl⟩
          rw [← HC4.out]
          go_wp2_with fail
          with_reducible refine (awake_any w6).mono ?_
          rintro e w7 ⟨rfl, hb7⟩
          replace HP := hide (HP.out.below hb7 (by omega))
          replace HV := hide (HV.out.below hb7 (by omega))
          replace HVa := hide (HVa.out.below hb7 (by omega))
          replace HVb := hide (HVb.out.below hb7 (by omega))
          replace HRa := hide (HRa.out.below hb7 (by omega))
          replace HRb := hide (HRb.out.below hb7 (by omega))
          replace HRc := hide (HRc.out.below hb7 (by omega))
          replace HRd := hide (HRd.out.below hb7 (by omega))
          replace HF := hide (HF.out.below hb7 (by omega))
          replace HTo := hide (HTo.out.below hb7 (by omega))
          have HB7 := hide (HB6.out.trans (hb7.mono (by omega)))
          have hz7 := hb7.size
          clear hb7 HB6
          go_wp2_with fail
          go_ret
          exact ⟨rfl, HB7.out⟩
    subst ht
    by_cases hs : tbl = tbl'
    rotate_left
    · have hsn := str_ne hs
      have ts : (tbl.toList == tbl'.toList) = false := by rw [ByteArray.toList_eq, ByteArray.toList_eq]; simpa using hsn
      have HNs := hide hsn
      clear hs hsn
      have HP1 : Hid (lb.isPrefixOf la = false) := HAB.out.2 (by rintro ⟨⟨e1, e2⟩, e3⟩; exact HNs.out e2)
      have HP2 : Hid (ld.isPrefixOf lc = false) := HCD.out.2 (by rintro ⟨⟨⟨e1, e2⟩, e4⟩, e3⟩; exact HNs.out e2)
      obtain ⟨c1, hc1⟩ : ∃ x, x = cmpB from_ lb := ⟨_, rfl⟩
      obtain ⟨c2, hc2⟩ : ∃ x, x = cmpB lb to_ := ⟨_, rfl⟩
      obtain ⟨c3, hc3⟩ : ∃ x, x = cmpB from_ ld := ⟨_, rfl⟩
      obtain ⟨c4, hc4⟩ : ∃ x, x = cmpB ld to_ := ⟨_, rfl⟩
      have hu3 : c3 ≤ 0 := by rw [hc3]; exact HO2.out
      have hu4 : decide (c4 < 0) = false := by rw [hc4]; exact decide_eq_false HO1.out
      have hnot : ¬ (c1 ≤ 0 ∧ c2 < 0) := by rw [hc1, hc2, HIn.out]; rintro ⟨e1, e2⟩; exact HNs.out e2
      have HC1 := hide hc1
      have HC2 := hide hc2
      have HC3 := hide hc3
      have HC4 := hide hc4
      clear hc1 hc2 hc3 hc4
      obtain ⟨dp0, dp2, dp3⟩ := place_cells HP.out
      obtain ⟨dq0, dq2, dq3⟩ := place_cells HV.out
      obtain ⟨dv0, dv1, dv2⟩ := key_cells HVa.out
      obtain ⟨dw0, dw1, dw2⟩ := key_cells HVb.out
      go_wp2_with fail
      with_reducible refine (hasPrefix_any Aa Ab la.length ca lb.length cb la lb w5 _ _ HRa.out HRb.out HLa.out).mono ?_
      rintro e w' ⟨rfl, rfl⟩
      rw [HP1.out]
      go_wp2_with fail
      with_reducible refine (hasPrefix_any Ac Ad lc.length cc ld.length cd lc ld w5 _ _ HRc.out HRd.out HLc.out).mono ?_
      rintro e w' ⟨rfl, rfl⟩
      rw [HP2.out]
      go_wp2_with fail
      with_reducible refine (hasPrefix_any Aa Ac la.length ca lc.length cc la lc w5 _ _ HRa.out HRc.out HLa.out).mono ?_
      rintro e w' ⟨rfl, rfl⟩
      rw [HAC.out.1]
      go_wp2_with fail
      with_reducible refine (hasPrefix_any Ac Aa lc.length cc la.length ca lc la w5 _ _ HRc.out HRa.out HLc.out).mono ?_
      rintro e w' ⟨rfl, rfl⟩
      rw [HAC.out.2]
      go_wp2_with fail
      all_goals
        clear dp0 dp2 dp3 dq0 dq2 dq3 dv0 dv1 dv2 dw0 dw1 dw2
        with_reducible refine (rows_any t tbl w5 HT.out).mono ?_
        rintro e w6 hpost
        obtain ⟨AF, cF, AT, cT, rfl, hoF, hoT, hb6⟩ := hpost.is HRw.out
        clear hpost
        have HF := hide (Rb.own hoF)
        have HTo := hide (Rb.own hoT)
        clear hoF hoT
        replace HP := hide (HP.out.below hb6 (by omega))
        replace HV := hide (HV.out.below hb6 (by omega))
        replace HVa := hide (HVa.out.below hb6 (by omega))
        replace HVb := hide (HVb.out.below hb6 (by omega))
        replace HRa := hide (HRa.out.below hb6 (by omega))
        replace HRb := hide (HRb.out.below hb6 (by omega))
        replace HRc := hide (HRc.out.below hb6 (by omega))
        replace HRd := hide (HRd.out.below hb6 (by omega))
        have HB6 := hide (HB5.out.trans (hb6.mono (by omega)))
        have hz6 := hb6.size
        clear hb6 HB5
        go_wp2_with fail
        with_reducible refine (bcompare_any AF Ab from_.length cF lb.length cb from_ lb w6 _ _ HF.out HRb.out).mono ?_
        rintro e w' ⟨rfl, rfl⟩
        rw [← HC1.out]
        by_cases hcc : c1 ≤ 0
        · have hu2 : decide (c2 < 0) = false := decide_eq_false fun h => hnot ⟨hcc, h⟩
          clear hnot
          go_wp2_with fail
          with_reducible refine (bcompare_any Ab AT lb.length cb to_.length cT lb to_ w6 _ _ HRb.out HTo.out).mono ?_
          rintro e w' ⟨rfl, rfl⟩
          rw [← HC2.out]
          go_wp2_with fail
          with_reducible refine (bcompare_any AF Ad from_.length cF ld.length cd from_ ld w6 _ _ HF.out HRd.out).mono ?_
          rintro e w' ⟨rfl, rfl⟩
          rw [← HC3.out]
          go_wp2_with fail
          with_reducible refine (bcompare_any Ad AT ld.length cd to_.length cT ld to_ w6 _ _ HRd.out HTo.out).mono ?_
          rintro e w' ⟨rfl, rfl⟩
          rw [← HC4.out]
          go_wp2_with fail
          with_reducible refine (awake_any w6).mono ?_
          rintro e w7 ⟨rfl, hb7⟩
          replace HP := hide (HP.out.below hb7 (by omega))
          replace HV := hide (HV.out.below hb7 (by omega))
          replace HVa := hide (HVa.out.below hb7 (by omega))
          replace HVb := hide (HVb.out.below hb7 (by omega))
          replace HRa := hide (HRa.out.below hb7 (by omega))
          replace HRb := hide (HRb.out.below hb7 (by omega))
          replace HRc := hide (HRc.out.below hb7 (by omega))
          replace HRd := hide (HRd.out.below hb7 (by omega))
          replace HF := hide (HF.out.below hb7 (by omega))
          replace HTo := hide (HTo.out.below hb7 (by omega))
          have HB7 := hide (HB6.out.trans (hb7.mono (by omega)))
          have hz7 := hb7.size
          clear hb7 HB6
          go_wp2_with fail
          go_ret
          exact ⟨rfl, HB7.out⟩
        · clear hnot
          go_wp2_with fail
          with_reducible refine (bcompare_any AF Ad from_.length cF ld.length cd from_ ld w6 _ _ HF.out HRd.out).mono ?_
          rintro e w' ⟨rfl, rfl⟩
          rw [← HC3.out]
          go_wp2_with fail
          with_reducible refine (bcompare_any Ad AT ld.length cd to_.length cT ld to_ w6 _ _ HRd.out HTo.out).mono ?_
          rintro e w' ⟨rfl, rfl⟩
          rw [← HC4.out]
          go_wp2_with fail
          with_reducible refine (awake_any w6).mono ?_
          rintro e w7 ⟨rfl, hb7⟩
          replace HP := hide (HP.out.below hb7 (by omega))
          replace HV := hide (HV.out.below hb7 (by omega))
          replace HVa := hide (HVa.out.below hb7 (by omega))
          replace HVb := hide (HVb.out.below hb7 (by omega))
          replace HRa := hide (HRa.out.below hb7 (by omega))
          replace HRb := hide (HRb.out.below hb7 (by omega))
          replace HRc := hide (HRc.out.below hb7 (by omega))
          replace HRd := hide (HRd.out.below hb7 (by omega))
          replace HF := hide (HF.out.below hb7 (by omega))
          replace HTo := hide (HTo.out.below hb7 (by omega))
          have HB7 := hide (HB6.out.trans (hb7.mono (by omega)))
          have hz7 := hb7.size
          clear hb7 HB6
          go_wp2_with fail
          go_ret
          exact ⟨rfl, HB7.out⟩
    subst hs
    by_cases hcol : col = col'
    rotate_left
    · have hcn := str_ne hcol
      have tc : (col.toList == col'.toList) = false := by rw [ByteArray.toList_eq, ByteArray.toList_eq]; simpa using hcn
      have HNc := hide hcn
      clear hcol hcn
      cases qv
      · have HNv : Hid (¬ (⟨k, n, s⟩ : Cell.Val) = ⟨k', n', s'⟩) := fun e => by have h2 := (vbeq_iff _ _).2 e; rw [← HQV.out] at h2; cases h2
        have HP1 : Hid (lb.isPrefixOf la = false) := HAB.out.2 (by rintro ⟨⟨e1, e2⟩, e3⟩; exact HNv.out e3)
        have HP2 : Hid (ld.isPrefixOf lc = false) := HCD.out.2 (by rintro ⟨⟨⟨e1, e2⟩, e4⟩, e3⟩; exact HNv.out e3)
        obtain ⟨c1, hc1⟩ : ∃ x, x = cmpB from_ lb := ⟨_, rfl⟩
        obtain ⟨c2, hc2⟩ : ∃ x, x = cmpB lb to_ := ⟨_, rfl⟩
        obtain ⟨c3, hc3⟩ : ∃ x, x = cmpB from_ ld := ⟨_, rfl⟩
        obtain ⟨c4, hc4⟩ : ∃ x, x = cmpB ld to_ := ⟨_, rfl⟩
        have hu3 : c3 ≤ 0 := by rw [hc3]; exact HO2.out
        have hu4 : decide (c4 < 0) = false := by rw [hc4]; exact decide_eq_false HO1.out
        have hu1 : c1 ≤ 0 := by rw [hc1]; exact (HIn.out.2 (by simp)).1
        have hu2 : c2 < 0 := by rw [hc2]; exact (HIn.out.2 (by simp)).2
        have HC1 := hide hc1
        have HC2 := hide hc2
        have HC3 := hide hc3
        have HC4 := hide hc4
        clear hc1 hc2 hc3 hc4
        obtain ⟨dp0, dp2, dp3⟩ := place_cells HP.out
        obtain ⟨dq0, dq2, dq3⟩ := place_cells HV.out
        obtain ⟨dv0, dv1, dv2⟩ := key_cells HVa.out
        obtain ⟨dw0, dw1, dw2⟩ := key_cells HVb.out
        go_wp2_with fail
        with_reducible refine (hasPrefix_any Aa Ab la.length ca lb.length cb la lb w5 _ _ HRa.out HRb.out HLa.out).mono ?_
        rintro e w' ⟨rfl, rfl⟩
        rw [HP1.out]
        go_wp2_with fail
        with_reducible refine (hasPrefix_any Ac Ad lc.length cc ld.length cd lc ld w5 _ _ HRc.out HRd.out HLc.out).mono ?_
        rintro e w' ⟨rfl, rfl⟩
        rw [HP2.out]
        go_wp2_with fail
        with_reducible refine (hasPrefix_any Aa Ac la.length ca lc.length cc la lc w5 _ _ HRa.out HRc.out HLa.out).mono ?_
        rintro e w' ⟨rfl, rfl⟩
        rw [HAC.out.1]
        go_wp2_with fail
        with_reducible refine (hasPrefix_any Ac Aa lc.length cc la.length ca lc la w5 _ _ HRc.out HRa.out HLc.out).mono ?_
        rintro e w' ⟨rfl, rfl⟩
        rw [HAC.out.2]
        go_wp2_with fail
        all_goals
          clear dp0 dp2 dp3 dq0 dq2 dq3 dv0 dv1 dv2 dw0 dw1 dw2
          with_reducible refine (rows_any t tbl w5 HT.out).mono ?_
          rintro e w6 hpost
          obtain ⟨AF, cF, AT, cT, rfl, hoF, hoT, hb6⟩ := hpost.is HRw.out
          clear hpost
          have HF := hide (Rb.own hoF)
          have HTo := hide (Rb.own hoT)
          clear hoF hoT
          replace HP := hide (HP.out.below hb6 (by omega))
          replace HV := hide (HV.out.below hb6 (by omega))
          replace HVa := hide (HVa.out.below hb6 (by omega))
          replace HVb := hide (HVb.out.below hb6 (by omega))
          replace HRa := hide (HRa.out.below hb6 (by omega))
          replace HRb := hide (HRb.out.below hb6 (by omega))
          replace HRc := hide (HRc.out.below hb6 (by omega))
          replace HRd := hide (HRd.out.below hb6 (by omega))
          have HB6 := hide (HB5.out.trans (hb6.mono (by omega)))
          have hz6 := hb6.size
          clear hb6 HB5
          go_wp2_with fail
          with_reducible refine (bcompare_any AF Ab from_.length cF lb.length cb from_ lb w6 _ _ HF.out HRb.out).mono ?_
          rintro e w' ⟨rfl, rfl⟩
          rw [← HC1.out]
          go_wp2_with fail
          with_reducible refine (bcompare_any Ab AT lb.length cb to_.length cT lb to_ w6 _ _ HRb.out HTo.out).mono ?_
          rintro e w' ⟨rfl, rfl⟩
          rw [← HC2.out]
          go_wp2_with fail
          with_reducible refine (bcompare_any AF Ad from_.length cF ld.length cd from_ ld w6 _ _ HF.out HRd.out).mono ?_
          rintro e w' ⟨rfl, rfl⟩
          rw [← HC3.out]
          go_wp2_with fail
          with_reducible refine (bcompare_any Ad AT ld.length cd to_.length cT ld to_ w6 _ _ HRd.out HTo.out).mono ?_
          rintro e w' ⟨rfl, rfl⟩
          rw [← HC4.out]
          go_wp2_with fail
          with_reducible refine (awake_any w6).mono ?_
          rintro e w7 ⟨rfl, hb7⟩
          replace HP := hide (HP.out.below hb7 (by omega))
          replace HV := hide (HV.out.below hb7 (by omega))
          replace HVa := hide (HVa.out.below hb7 (by omega))
          replace HVb := hide (HVb.out.below hb7 (by omega))
          replace HRa := hide (HRa.out.below hb7 (by omega))
          replace HRb := hide (HRb.out.below hb7 (by omega))
          replace HRc := hide (HRc.out.below hb7 (by omega))
          replace HRd := hide (HRd.out.below hb7 (by omega))
          replace HF := hide (HF.out.below hb7 (by omega))
          replace HTo := hide (HTo.out.below hb7 (by omega))
          have HB7 := hide (HB6.out.trans (hb7.mono (by omega)))
          have hz7 := hb7.size
          clear hb7 HB6
          go_wp2_with fail
          go_ret
          exact ⟨rfl, HB7.out⟩
      · have heq := (vbeq_iff _ _).1 HQV.out.symm
        injection heq with e3 e4 e5
        subst e3 e4 e5
        have HP1 : Hid (lb.isPrefixOf la = true) := HAB.out.1 (by simp)
        have HP2 : Hid (ld.isPrefixOf lc = false) := HCD.out.2 (by rintro ⟨⟨⟨e1, e2⟩, e4⟩, e3⟩; exact HNc.out e4)
        obtain ⟨c1, hc1⟩ : ∃ x, x = cmpB from_ lb := ⟨_, rfl⟩
        obtain ⟨c2, hc2⟩ : ∃ x, x = cmpB lb to_ := ⟨_, rfl⟩
        obtain ⟨c3, hc3⟩ : ∃ x, x = cmpB from_ ld := ⟨_, rfl⟩
        obtain ⟨c4, hc4⟩ : ∃ x, x = cmpB ld to_ := ⟨_, rfl⟩
        have hu3 : c3 ≤ 0 := by rw [hc3]; exact HO2.out
        have hu4 : decide (c4 < 0) = false := by rw [hc4]; exact decide_eq_false HO1.out
        have hu1 : c1 ≤ 0 := by rw [hc1]; exact (HIn.out.2 (by simp)).1
        have hu2 : c2 < 0 := by rw [hc2]; exact (HIn.out.2 (by simp)).2
        have HC1 := hide hc1
        have HC2 := hide hc2
        have HC3 := hide hc3
        have HC4 := hide hc4
        clear hc1 hc2 hc3 hc4
        obtain ⟨dp0, dp2, dp3⟩ := place_cells HP.out
        obtain ⟨dq0, dq2, dq3⟩ := place_cells HV.out
        obtain ⟨dv0, dv1, dv2⟩ := key_cells HVa.out
        obtain ⟨dw0, dw1, dw2⟩ := key_cells HVb.out
        go_wp2_with fail
        with_reducible refine (hasPrefix_any Aa Ab la.length ca lb.length cb la lb w5 _ _ HRa.out HRb.out HLa.out).mono ?_
        rintro e w' ⟨rfl, rfl⟩
        rw [HP1.out]
        go_wp2_with fail
        with_reducible refine (hasPrefix_any Ac Ad lc.length cc ld.length cd lc ld w5 _ _ HRc.out HRd.out HLc.out).mono ?_
        rintro e w' ⟨rfl, rfl⟩
        rw [HP2.out]
        go_wp2_with fail
        with_reducible refine (hasPrefix_any Aa Ac la.length ca lc.length cc la lc w5 _ _ HRa.out HRc.out HLa.out).mono ?_
        rintro e w' ⟨rfl, rfl⟩
        rw [HAC.out.1]
        go_wp2_with fail
        with_reducible refine (hasPrefix_any Ac Aa lc.length cc la.length ca lc la w5 _ _ HRc.out HRa.out HLc.out).mono ?_
        rintro e w' ⟨rfl, rfl⟩
        rw [HAC.out.2]
        go_wp2_with fail
        all_goals
          clear dp0 dp2 dp3 dq0 dq2 dq3 dv0 dv1 dv2 dw0 dw1 dw2
          with_reducible refine (rows_any t tbl w5 HT.out).mono ?_
          rintro e w6 hpost
          obtain ⟨AF, cF, AT, cT, rfl, hoF, hoT, hb6⟩ := hpost.is HRw.out
          clear hpost
          have HF := hide (Rb.own hoF)
          have HTo := hide (Rb.own hoT)
          clear hoF hoT
          replace HP := hide (HP.out.below hb6 (by omega))
          replace HV := hide (HV.out.below hb6 (by omega))
          replace HVa := hide (HVa.out.below hb6 (by omega))
          replace HVb := hide (HVb.out.below hb6 (by omega))
          replace HRa := hide (HRa.out.below hb6 (by omega))
          replace HRb := hide (HRb.out.below hb6 (by omega))
          replace HRc := hide (HRc.out.below hb6 (by omega))
          replace HRd := hide (HRd.out.below hb6 (by omega))
          have HB6 := hide (HB5.out.trans (hb6.mono (by omega)))
          have hz6 := hb6.size
          clear hb6 HB5
          go_wp2_with fail
          with_reducible refine (bcompare_any AF Ab from_.length cF lb.length cb from_ lb w6 _ _ HF.out HRb.out).mono ?_
          rintro e w' ⟨rfl, rfl⟩
          rw [← HC1.out]
          go_wp2_with fail
          with_reducible refine (bcompare_any Ab AT lb.length cb to_.length cT lb to_ w6 _ _ HRb.out HTo.out).mono ?_
          rintro e w' ⟨rfl, rfl⟩
          rw [← HC2.out]
          go_wp2_with fail
          with_reducible refine (bcompare_any AF Ad from_.length cF ld.length cd from_ ld w6 _ _ HF.out HRd.out).mono ?_
          rintro e w' ⟨rfl, rfl⟩
          rw [← HC3.out]
          go_wp2_with fail
          with_reducible refine (bcompare_any Ad AT ld.length cd to_.length cT ld to_ w6 _ _ HRd.out HTo.out).mono ?_
          rintro e w' ⟨rfl, rfl⟩
          rw [← HC4.out]
          go_wp2_with fail
          with_reducible refine (awake_any w6).mono ?_
          rintro e w7 ⟨rfl, hb7⟩
          replace HP := hide (HP.out.below hb7 (by omega))
          replace HV := hide (HV.out.below hb7 (by omega))
          replace HVa := hide (HVa.out.below hb7 (by omega))
          replace HVb := hide (HVb.out.below hb7 (by omega))
          replace HRa := hide (HRa.out.below hb7 (by omega))
          replace HRb := hide (HRb.out.below hb7 (by omega))
          replace HRc := hide (HRc.out.below hb7 (by omega))
          replace HRd := hide (HRd.out.below hb7 (by omega))
          replace HF := hide (HF.out.below hb7 (by omega))
          replace HTo := hide (HTo.out.below hb7 (by omega))
          have HB7 := hide (HB6.out.trans (hb7.mono (by omega)))
          have hz7 := hb7.size
          clear hb7 HB6
          go_wp2_with fail
          go_ret
          exact ⟨rfl, HB7.out⟩
    subst hcol
    cases qv
    · have HNv : Hid (¬ (⟨k, n, s⟩ : Cell.Val) = ⟨k', n', s'⟩) := fun e => by have h2 := (vbeq_iff _ _).2 e; rw [← HQV.out] at h2; cases h2
      have HP1 : Hid (lb.isPrefixOf la = false) := HAB.out.2 (by rintro ⟨⟨e1, e2⟩, e3⟩; exact HNv.out e3)
      have HP2 : Hid (ld.isPrefixOf lc = false) := HCD.out.2 (by rintro ⟨⟨⟨e1, e2⟩, e4⟩, e3⟩; exact HNv.out e3)
      obtain ⟨c1, hc1⟩ : ∃ x, x = cmpB from_ lb := ⟨_, rfl⟩
      obtain ⟨c2, hc2⟩ : ∃ x, x = cmpB lb to_ := ⟨_, rfl⟩
      obtain ⟨c3, hc3⟩ : ∃ x, x = cmpB from_ ld := ⟨_, rfl⟩
      obtain ⟨c4, hc4⟩ : ∃ x, x = cmpB ld to_ := ⟨_, rfl⟩
      have hu3 : c3 ≤ 0 := by rw [hc3]; exact HO2.out
      have hu4 : decide (c4 < 0) = false := by rw [hc4]; exact decide_eq_false HO1.out
      have hu1 : c1 ≤ 0 := by rw [hc1]; exact (HIn.out.2 (by simp)).1
      have hu2 : c2 < 0 := by rw [hc2]; exact (HIn.out.2 (by simp)).2
      have HC1 := hide hc1
      have HC2 := hide hc2
      have HC3 := hide hc3
      have HC4 := hide hc4
      clear hc1 hc2 hc3 hc4
      obtain ⟨dp0, dp2, dp3⟩ := place_cells HP.out
      obtain ⟨dq0, dq2, dq3⟩ := place_cells HV.out
      obtain ⟨dv0, dv1, dv2⟩ := key_cells HVa.out
      obtain ⟨dw0, dw1, dw2⟩ := key_cells HVb.out
      go_wp2_with fail
      with_reducible refine (hasPrefix_any Aa Ab la.length ca lb.length cb la lb w5 _ _ HRa.out HRb.out HLa.out).mono ?_
      rintro e w' ⟨rfl, rfl⟩
      rw [HP1.out]
      go_wp2_with fail
      with_reducible refine (hasPrefix_any Ac Ad lc.length cc ld.length cd lc ld w5 _ _ HRc.out HRd.out HLc.out).mono ?_
      rintro e w' ⟨rfl, rfl⟩
      rw [HP2.out]
      go_wp2_with fail
      with_reducible refine (hasPrefix_any Aa Ac la.length ca lc.length cc la lc w5 _ _ HRa.out HRc.out HLa.out).mono ?_
      rintro e w' ⟨rfl, rfl⟩
      rw [HAC.out.1]
      go_wp2_with fail
      with_reducible refine (hasPrefix_any Ac Aa lc.length cc la.length ca lc la w5 _ _ HRc.out HRa.out HLc.out).mono ?_
      rintro e w' ⟨rfl, rfl⟩
      rw [HAC.out.2]
      go_wp2_with fail
      all_goals
        clear dp0 dp2 dp3 dq0 dq2 dq3 dv0 dv1 dv2 dw0 dw1 dw2
        with_reducible refine (rows_any t tbl w5 HT.out).mono ?_
        rintro e w6 hpost
        obtain ⟨AF, cF, AT, cT, rfl, hoF, hoT, hb6⟩ := hpost.is HRw.out
        clear hpost
        have HF := hide (Rb.own hoF)
        have HTo := hide (Rb.own hoT)
        clear hoF hoT
        replace HP := hide (HP.out.below hb6 (by omega))
        replace HV := hide (HV.out.below hb6 (by omega))
        replace HVa := hide (HVa.out.below hb6 (by omega))
        replace HVb := hide (HVb.out.below hb6 (by omega))
        replace HRa := hide (HRa.out.below hb6 (by omega))
        replace HRb := hide (HRb.out.below hb6 (by omega))
        replace HRc := hide (HRc.out.below hb6 (by omega))
        replace HRd := hide (HRd.out.below hb6 (by omega))
        have HB6 := hide (HB5.out.trans (hb6.mono (by omega)))
        have hz6 := hb6.size
        clear hb6 HB5
        go_wp2_with fail
        with_reducible refine (bcompare_any AF Ab from_.length cF lb.length cb from_ lb w6 _ _ HF.out HRb.out).mono ?_
        rintro e w' ⟨rfl, rfl⟩
        rw [← HC1.out]
        go_wp2_with fail
        with_reducible refine (bcompare_any Ab AT lb.length cb to_.length cT lb to_ w6 _ _ HRb.out HTo.out).mono ?_
        rintro e w' ⟨rfl, rfl⟩
        rw [← HC2.out]
        go_wp2_with fail
        with_reducible refine (bcompare_any AF Ad from_.length cF ld.length cd from_ ld w6 _ _ HF.out HRd.out).mono ?_
        rintro e w' ⟨rfl, rfl⟩
        rw [← HC3.out]
        go_wp2_with fail
        with_reducible refine (bcompare_any Ad AT ld.length cd to_.length cT ld to_ w6 _ _ HRd.out HTo.out).mono ?_
        rintro e w' ⟨rfl, rfl⟩
        rw [← HC4.out]
        go_wp2_with fail
        with_reducible refine (awake_any w6).mono ?_
        rintro e w7 ⟨rfl, hb7⟩
        replace HP := hide (HP.out.below hb7 (by omega))
        replace HV := hide (HV.out.below hb7 (by omega))
        replace HVa := hide (HVa.out.below hb7 (by omega))
        replace HVb := hide (HVb.out.below hb7 (by omega))
        replace HRa := hide (HRa.out.below hb7 (by omega))
        replace HRb := hide (HRb.out.below hb7 (by omega))
        replace HRc := hide (HRc.out.below hb7 (by omega))
        replace HRd := hide (HRd.out.below hb7 (by omega))
        replace HF := hide (HF.out.below hb7 (by omega))
        replace HTo := hide (HTo.out.below hb7 (by omega))
        have HB7 := hide (HB6.out.trans (hb7.mono (by omega)))
        have hz7 := hb7.size
        clear hb7 HB6
        go_wp2_with fail
        go_ret
        exact ⟨rfl, HB7.out⟩
    · have heq := (vbeq_iff _ _).1 HQV.out.symm
      injection heq with e3 e4 e5
      subst e3 e4 e5
      have HP1 : Hid (lb.isPrefixOf la = true) := HAB.out.1 (by simp)
      have HP2 : Hid (ld.isPrefixOf lc = true) := HCD.out.1 (by simp)
      obtain ⟨c1, hc1⟩ : ∃ x, x = cmpB from_ lb := ⟨_, rfl⟩
      obtain ⟨c2, hc2⟩ : ∃ x, x = cmpB lb to_ := ⟨_, rfl⟩
      obtain ⟨c3, hc3⟩ : ∃ x, x = cmpB from_ ld := ⟨_, rfl⟩
      obtain ⟨c4, hc4⟩ : ∃ x, x = cmpB ld to_ := ⟨_, rfl⟩
      have hu3 : c3 ≤ 0 := by rw [hc3]; exact HO2.out
      have hu4 : decide (c4 < 0) = false := by rw [hc4]; exact decide_eq_false HO1.out
      have hu1 : c1 ≤ 0 := by rw [hc1]; exact (HIn.out.2 (by simp)).1
      have hu2 : c2 < 0 := by rw [hc2]; exact (HIn.out.2 (by simp)).2
      have HC1 := hide hc1
      have HC2 := hide hc2
      have HC3 := hide hc3
      have HC4 := hide hc4
      clear hc1 hc2 hc3 hc4
      obtain ⟨dp0, dp2, dp3⟩ := place_cells HP.out
      obtain ⟨dq0, dq2, dq3⟩ := place_cells HV.out
      obtain ⟨dv0, dv1, dv2⟩ := key_cells HVa.out
      obtain ⟨dw0, dw1, dw2⟩ := key_cells HVb.out
      go_wp2_with fail
      with_reducible refine (hasPrefix_any Aa Ab la.length ca lb.length cb la lb w5 _ _ HRa.out HRb.out HLa.out).mono ?_
      rintro e w' ⟨rfl, rfl⟩
      rw [HP1.out]
      go_wp2_with fail
      with_reducible refine (hasPrefix_any Ac Ad lc.length cc ld.length cd lc ld w5 _ _ HRc.out HRd.out HLc.out).mono ?_
      rintro e w' ⟨rfl, rfl⟩
      rw [HP2.out]
      go_wp2_with fail
      with_reducible refine (hasPrefix_any Aa Ac la.length ca lc.length cc la lc w5 _ _ HRa.out HRc.out HLa.out).mono ?_
      rintro e w' ⟨rfl, rfl⟩
      rw [HAC.out.1]
      go_wp2_with fail
      with_reducible refine (hasPrefix_any Ac Aa lc.length cc la.length ca lc la w5 _ _ HRc.out HRa.out HLc.out).mono ?_
      rintro e w' ⟨rfl, rfl⟩
      rw [HAC.out.2]
      go_wp2_with fail
      all_goals
        clear dp0 dp2 dp3 dq0 dq2 dq3 dv0 dv1 dv2 dw0 dw1 dw2
        with_reducible refine (rows_any t tbl w5 HT.out).mono ?_
        rintro e w6 hpost
        obtain ⟨AF, cF, AT, cT, rfl, hoF, hoT, hb6⟩ := hpost.is HRw.out
        clear hpost
        have HF := hide (Rb.own hoF)
        have HTo := hide (Rb.own hoT)
        clear hoF hoT
        replace HP := hide (HP.out.below hb6 (by omega))
        replace HV := hide (HV.out.below hb6 (by omega))
        replace HVa := hide (HVa.out.below hb6 (by omega))
        replace HVb := hide (HVb.out.below hb6 (by omega))
        replace HRa := hide (HRa.out.below hb6 (by omega))
        replace HRb := hide (HRb.out.below hb6 (by omega))
        replace HRc := hide (HRc.out.below hb6 (by omega))
        replace HRd := hide (HRd.out.below hb6 (by omega))
        have HB6 := hide (HB5.out.trans (hb6.mono (by omega)))
        have hz6 := hb6.size
        clear hb6 HB5
        go_wp2_with fail
        with_reducible refine (bcompare_any AF Ab from_.length cF lb.length cb from_ lb w6 _ _ HF.out HRb.out).mono ?_
        rintro e w' ⟨rfl, rfl⟩
        rw [← HC1.out]
        go_wp2_with fail
        with_reducible refine (bcompare_any Ab AT lb.length cb to_.length cT lb to_ w6 _ _ HRb.out HTo.out).mono ?_
        rintro e w' ⟨rfl, rfl⟩
        rw [← HC2.out]
        go_wp2_with fail
        with_reducible refine (bcompare_any AF Ad from_.length cF ld.length cd from_ ld w6 _ _ HF.out HRd.out).mono ?_
        rintro e w' ⟨rfl, rfl⟩
        rw [← HC3.out]
        go_wp2_with fail
        with_reducible refine (bcompare_any Ad AT ld.length cd to_.length cT ld to_ w6 _ _ HRd.out HTo.out).mono ?_
        rintro e w' ⟨rfl, rfl⟩
        rw [← HC4.out]
        go_wp2_with fail
        with_reducible refine (awake_any w6).mono ?_
        rintro e w7 ⟨rfl, hb7⟩
        replace HP := hide (HP.out.below hb7 (by omega))
        replace HV := hide (HV.out.below hb7 (by omega))
        replace HVa := hide (HVa.out.below hb7 (by omega))
        replace HVb := hide (HVb.out.below hb7 (by omega))
        replace HRa := hide (HRa.out.below hb7 (by omega))
        replace HRb := hide (HRb.out.below hb7 (by omega))
        replace HRc := hide (HRc.out.below hb7 (by omega))
        replace HRd := hide (HRd.out.below hb7 (by omega))
        replace HF := hide (HF.out.below hb7 (by omega))
        replace HTo := hide (HTo.out.below hb7 (by omega))
        have HB7 := hide (HB6.out.trans (hb7.mono (by omega)))
        have hz7 := hb7.size
        clear hb7 HB6
        go_wp2_with fail
        go_ret
        exact ⟨rfl, HB7.out⟩
end Go.Proofs.Ytccapkkaeljnfaa
