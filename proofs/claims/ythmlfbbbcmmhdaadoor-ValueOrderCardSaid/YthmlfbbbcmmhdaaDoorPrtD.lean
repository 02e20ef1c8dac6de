/-
  The walk of chanceryref17.Print. Conditions: numbers within 64 bits. (printed by prtd.py)
-/
import Derived.Test.YthmlfbbbcmmhdaaDoorPrtC
namespace Go.Proofs.YthmlfbbbcmmhdaaDoor
open Go.RowKit

theorem hexe : ∀ x : Fin 16, hexS.extract x.val (x.val + 1) = ⟨#[Prt.hexc x.val]⟩ := by decide
theorem hex_cut (x : Nat) (h : x < 16) : hexS.extract x (x + 1) = ⟨#[Prt.hexc x]⟩ := hexe ⟨x, h⟩
/-- The value's block. -/
def VB (w wr : World) (k : UInt8) (n : Int) (s : ByteArray) : Prop := Blk wr w.heap.size 25 #[.int .u8 (k.toNat : Int), .int .i64 n, .string s] ∧ Below w.heap.size w wr
theorem VB.new (w : World) (k : UInt8) (n : Int) (s : ByteArray) : VB w (w.alloc (.cells #[.int .u8 (k.toNat : Int), .int .i64 n, .string s] 25)) k n s := ⟨Blk.new _ _ _, (Below.refl _ _).alloc (Nat.le_refl _) _⟩
theorem VB.below {w wr w' : World} {k : UInt8} {n : Int} {s : ByteArray} (h : VB w wr k n s) (hb : Below wr.heap.size wr w') : VB w w' k n s := ⟨h.1.below hb h.1.lt, h.2.trans (hb.mono h.2.size)⟩
theorem VB.drew {w wr : World} {k : UInt8} {n : Int} {s : ByteArray} (h : VB w wr k n s) : VB w { wr with drawn := wr.drawn + 1 } k n s := ⟨h.1, h.2.drew⟩
theorem byte_at {s : ByteArray} {k : Nat} (h : k < s.size) : s.data.toList.take (k + 1) = s.data.toList.take k ++ [s[k]] := by
  have hl : k < s.data.toList.length := by rw [Array.length_toList]; exact h
  rw [List.take_succ_eq_append_getElem hl]
  rfl
theorem cut_one {s : ByteArray} {k : Nat} (h : k < s.size) : (s.extract k (k + 1)).data.toList = [s[k]] := by
  have hl : k < s.data.toList.length := by rw [Array.length_toList]; exact h
  rw [ByteArray.data_extract, Array.toList_extract]
  simp only [List.extract_eq_take_drop]
  rw [show k + 1 - k = 1 by omega, List.drop_eq_getElem_cons hl]
  rfl
theorem take_all (s : ByteArray) : s.data.toList.take s.size = s.data.toList := List.take_of_length_le (by rw [Array.length_toList]; exact Nat.le_refl _)

set_option maxRecDepth 20000 in
set_option maxHeartbeats 1600000 in
theorem rp_0p (k : UInt8) (n : Int) (s : ByteArray) (w : World) (h0 : -9223372036854775808 ≤ n) (h1 : n ≤ 9223372036854775807) (hk : k.toNat = 0) (hn : 0 ≤ n) (hR : Cell.rightB ⟨k, n, s⟩ = true) :
    Calls Tryd.prog 33 #[.agg #[.int .u8 (k.toNat : Int), .int .i64 n, .string s]] w fun e w' => e = .returned (.string ⟨(Prt.prt ⟨k, n, s⟩).toArray⟩) ∧ Below w.heap.size w w' := by
  obtain ⟨p, hp⟩ : ∃ p, p = Prt.prt ⟨k, n, s⟩ := ⟨_, rfl⟩
  rw [← hp]
  have HN := hide (VB.new w k n s)
  have hP1 := hp.trans (prt_of hR)
  simp only at hP1
  obtain ⟨-, hs⟩ := right_kind hR
  have HPP := hide hP1
  have HR := hide hR
  have HK := hide hk
  clear hP1 hp hR hk
  obtain ⟨u, hu⟩ : ∃ u, u = n.natAbs := ⟨_, rfl⟩
  obtain ⟨M, hM⟩ : ∃ M : ByteArray, M = ⟨(Prt.minus n).toArray⟩ := ⟨_, rfl⟩
  have hMl : M.data.toList = Prt.minus n := by rw [hM]
  have hM1 : M.size ≤ 1 := by rw [str_len' hMl]; unfold Prt.minus; split <;> simp
  have hul : u < 18446744073709551616 := by omega
  have HU := hide hu
  have HMl := hide hMl
  have HUl := hide hul
  clear hMl
  have q1 : IntKind.u64.wrap n = (u : Int) := by rw [IntKind.wrap_u64]; omega
  have q3 : decide (n < 0) = false := by simp; omega
  obtain rfl : M = ⟨#[]⟩ := by rw [hM]; unfold Prt.minus; rw [if_neg (by omega)]
  clear hM hn hu hul h0 h1
  go_enter Tryd.func33, Tryd.ntmps33
  go_wp2_with fail
  obtain ⟨w0, hw0⟩ : ∃ x, x = w.alloc (.cells #[.int .u8 (k.toNat : Int), .int .i64 n, .string s] 25) := ⟨_, rfl⟩
  rw [← hw0] at HN ⊢
  clear hw0
  with_reducible refine (refRight_any k n s w0).mono ?_
  rintro e w1 ⟨rfl, hb1⟩
  replace HN := hide (HN.out.below hb1)
  clear hb1
  rw [HR.out]
  obtain ⟨a0, a1, a2⟩ := HN.out.1.c3
  have hk := HK.out
  have hP := HPP.out
  rw [hk] at hP
  have HF : Hid (p = [110, 117, 108, 108]) := hP
  clear hP
  have t0 : ((k.toNat : Int) == 0) = true := by simp; omega
  clear hk
  go_wp2_with fail
  go_ret
  exact ⟨by rw [HF.out]; rfl, HN.out.2⟩

set_option maxRecDepth 20000 in
set_option maxHeartbeats 1600000 in
theorem rp_1p (k : UInt8) (n : Int) (s : ByteArray) (w : World) (h0 : -9223372036854775808 ≤ n) (h1 : n ≤ 9223372036854775807) (hk : k.toNat = 1) (hn : 0 ≤ n) (hR : Cell.rightB ⟨k, n, s⟩ = true) :
    Calls Tryd.prog 33 #[.agg #[.int .u8 (k.toNat : Int), .int .i64 n, .string s]] w fun e w' => e = .returned (.string ⟨(Prt.prt ⟨k, n, s⟩).toArray⟩) ∧ Below w.heap.size w w' := by
  obtain ⟨p, hp⟩ : ∃ p, p = Prt.prt ⟨k, n, s⟩ := ⟨_, rfl⟩
  rw [← hp]
  have HN := hide (VB.new w k n s)
  have hP1 := hp.trans (prt_of hR)
  simp only at hP1
  obtain ⟨-, hs⟩ := right_kind hR
  have HPP := hide hP1
  have HR := hide hR
  have HK := hide hk
  clear hP1 hp hR hk
  obtain ⟨u, hu⟩ : ∃ u, u = n.natAbs := ⟨_, rfl⟩
  obtain ⟨M, hM⟩ : ∃ M : ByteArray, M = ⟨(Prt.minus n).toArray⟩ := ⟨_, rfl⟩
  have hMl : M.data.toList = Prt.minus n := by rw [hM]
  have hM1 : M.size ≤ 1 := by rw [str_len' hMl]; unfold Prt.minus; split <;> simp
  have hul : u < 18446744073709551616 := by omega
  have HU := hide hu
  have HMl := hide hMl
  have HUl := hide hul
  clear hMl
  have q1 : IntKind.u64.wrap n = (u : Int) := by rw [IntKind.wrap_u64]; omega
  have q3 : decide (n < 0) = false := by simp; omega
  obtain rfl : M = ⟨#[]⟩ := by rw [hM]; unfold Prt.minus; rw [if_neg (by omega)]
  clear hM hn hu hul h0 h1
  go_enter Tryd.func33, Tryd.ntmps33
  go_wp2_with fail
  obtain ⟨w0, hw0⟩ : ∃ x, x = w.alloc (.cells #[.int .u8 (k.toNat : Int), .int .i64 n, .string s] 25) := ⟨_, rfl⟩
  rw [← hw0] at HN ⊢
  clear hw0
  with_reducible refine (refRight_any k n s w0).mono ?_
  rintro e w1 ⟨rfl, hb1⟩
  replace HN := hide (HN.out.below hb1)
  clear hb1
  rw [HR.out]
  obtain ⟨a0, a1, a2⟩ := HN.out.1.c3
  have hk := HK.out
  have hP := HPP.out
  rw [hk] at hP
  have HF : Hid (p = if n = 1 then [116, 114, 117, 101] else [102, 97, 108, 115, 101]) := hP
  clear hP
  have t0 : ((k.toNat : Int) == 0) = false := by simp; omega
  have t1 : ((k.toNat : Int) == 1) = true := by simp; omega
  clear hk
  by_cases h1 : n = 1
  · have t6 : (n == 1) = true := by simpa using h1
    have HG := hide (HF.out.trans (if_pos h1))
    clear h1
    go_wp2_with fail
    go_ret
    exact ⟨by rw [HG.out]; rfl, HN.out.2⟩
  · have t6 : (n == 1) = false := by simpa using h1
    have HG := hide (HF.out.trans (if_neg h1))
    clear h1
    go_wp2_with fail
    go_ret
    exact ⟨by rw [HG.out]; rfl, HN.out.2⟩

set_option maxRecDepth 20000 in
set_option maxHeartbeats 1600000 in
theorem rp_2p (k : UInt8) (n : Int) (s : ByteArray) (w : World) (h0 : -9223372036854775808 ≤ n) (h1 : n ≤ 9223372036854775807) (hk : k.toNat = 2) (hn : 0 ≤ n) (hR : Cell.rightB ⟨k, n, s⟩ = true) :
    Calls Tryd.prog 33 #[.agg #[.int .u8 (k.toNat : Int), .int .i64 n, .string s]] w fun e w' => e = .returned (.string ⟨(Prt.prt ⟨k, n, s⟩).toArray⟩) ∧ Below w.heap.size w w' := by
  obtain ⟨p, hp⟩ : ∃ p, p = Prt.prt ⟨k, n, s⟩ := ⟨_, rfl⟩
  rw [← hp]
  have HN := hide (VB.new w k n s)
  have hP1 := hp.trans (prt_of hR)
  simp only at hP1
  obtain ⟨-, hs⟩ := right_kind hR
  have HPP := hide hP1
  have HR := hide hR
  have HK := hide hk
  clear hP1 hp hR hk
  obtain ⟨u, hu⟩ : ∃ u, u = n.natAbs := ⟨_, rfl⟩
  obtain ⟨M, hM⟩ : ∃ M : ByteArray, M = ⟨(Prt.minus n).toArray⟩ := ⟨_, rfl⟩
  have hMl : M.data.toList = Prt.minus n := by rw [hM]
  have hM1 : M.size ≤ 1 := by rw [str_len' hMl]; unfold Prt.minus; split <;> simp
  have hul : u < 18446744073709551616 := by omega
  have HU := hide hu
  have HMl := hide hMl
  have HUl := hide hul
  clear hMl
  have q1 : IntKind.u64.wrap n = (u : Int) := by rw [IntKind.wrap_u64]; omega
  have q3 : decide (n < 0) = false := by simp; omega
  obtain rfl : M = ⟨#[]⟩ := by rw [hM]; unfold Prt.minus; rw [if_neg (by omega)]
  clear hM hn hu hul h0 h1
  go_enter Tryd.func33, Tryd.ntmps33
  go_wp2_with fail
  obtain ⟨w0, hw0⟩ : ∃ x, x = w.alloc (.cells #[.int .u8 (k.toNat : Int), .int .i64 n, .string s] 25) := ⟨_, rfl⟩
  rw [← hw0] at HN ⊢
  clear hw0
  with_reducible refine (refRight_any k n s w0).mono ?_
  rintro e w1 ⟨rfl, hb1⟩
  replace HN := hide (HN.out.below hb1)
  clear hb1
  rw [HR.out]
  obtain ⟨a0, a1, a2⟩ := HN.out.1.c3
  have hk := HK.out
  have hP := HPP.out
  rw [hk] at hP
  have HF : Hid (p = Lib.itoa n) := hP
  clear hP
  have t0 : ((k.toNat : Int) == 0) = false := by simp; omega
  have t1 : ((k.toNat : Int) == 1) = false := by simp; omega
  have t2 : ((k.toNat : Int) == 2) = true := by simp; omega
  clear hk
  obtain ⟨D, hD⟩ : ∃ T : ByteArray, T = ⟨(Prt.dgs (u) 1).toArray⟩ := ⟨_, rfl⟩
  have HDl : Hid (D.data.toList = Prt.dgs (u) 1) := by show _ = _; rw [hD]
  have HDc := fun w => digits_any (u) 1 w (by have := HUl.out; omega) (by omega) (by omega)
  simp only [← hD] at HDc
  have GD := hide HDc
  have hDs : D.size ≤ 21 := by
    rw [str_len' HDl.out]
    unfold Prt.dgs
    rw [Prt.low_len]
    have := Lib.nDigits_le20 (u) (by have := HUl.out; omega)
    omega
  clear hD HDc
  go_wp2_with fail
  refine (GD.out _).mono ?_
  rintro e w2 ⟨rfl, hb2⟩
  replace HN := hide (HN.out.below hb2)
  clear hb2
  clear a0 a1 a2
  go_wp2_with fail
  go_ret
  refine ⟨?_, HN.out.2⟩
  show Ending.returned (.string ((⟨#[]⟩ : ByteArray) ++ D)) = _
  rw [ba_eq (a := (⟨#[]⟩ : ByteArray) ++ D) (l := p)]
  rw [HF.out, Prt.itoa_minus, ← HMl.out, ← HU.out, ← Prt.dgs_one, ← HDl.out, ByteArray.data_append, Array.toList_append]

set_option maxRecDepth 20000 in
set_option maxHeartbeats 1600000 in
theorem rp_2n (k : UInt8) (n : Int) (s : ByteArray) (w : World) (h0 : -9223372036854775808 ≤ n) (h1 : n ≤ 9223372036854775807) (hk : k.toNat = 2) (hn : n < 0) (hR : Cell.rightB ⟨k, n, s⟩ = true) :
    Calls Tryd.prog 33 #[.agg #[.int .u8 (k.toNat : Int), .int .i64 n, .string s]] w fun e w' => e = .returned (.string ⟨(Prt.prt ⟨k, n, s⟩).toArray⟩) ∧ Below w.heap.size w w' := by
  obtain ⟨p, hp⟩ : ∃ p, p = Prt.prt ⟨k, n, s⟩ := ⟨_, rfl⟩
  rw [← hp]
  have HN := hide (VB.new w k n s)
  have hP1 := hp.trans (prt_of hR)
  simp only at hP1
  obtain ⟨-, hs⟩ := right_kind hR
  have HPP := hide hP1
  have HR := hide hR
  have HK := hide hk
  clear hP1 hp hR hk
  obtain ⟨u, hu⟩ : ∃ u, u = n.natAbs := ⟨_, rfl⟩
  obtain ⟨M, hM⟩ : ∃ M : ByteArray, M = ⟨(Prt.minus n).toArray⟩ := ⟨_, rfl⟩
  have hMl : M.data.toList = Prt.minus n := by rw [hM]
  have hM1 : M.size ≤ 1 := by rw [str_len' hMl]; unfold Prt.minus; split <;> simp
  have hul : u < 18446744073709551616 := by omega
  have HU := hide hu
  have HMl := hide hMl
  have HUl := hide hul
  clear hMl
  obtain ⟨a, ha⟩ : ∃ a : Nat, (a : Int) = n % 18446744073709551616 := ⟨(n % 18446744073709551616).toNat, by omega⟩
  have q1 : IntKind.u64.wrap n = (a : Int) := by rw [IntKind.wrap_u64]; omega
  have q2 : IntKind.u64.wrap (-(a : Int)) = (u : Int) := by rw [IntKind.wrap_u64]; omega
  have q3 : decide (n < 0) = true := by simp; omega
  obtain rfl : M = ⟨#[45]⟩ := by rw [hM]; unfold Prt.minus; rw [if_pos hn]
  clear hM hn ha hu hul h0 h1
  go_enter Tryd.func33, Tryd.ntmps33
  go_wp2_with fail
  obtain ⟨w0, hw0⟩ : ∃ x, x = w.alloc (.cells #[.int .u8 (k.toNat : Int), .int .i64 n, .string s] 25) := ⟨_, rfl⟩
  rw [← hw0] at HN ⊢
  clear hw0
  with_reducible refine (refRight_any k n s w0).mono ?_
  rintro e w1 ⟨rfl, hb1⟩
  replace HN := hide (HN.out.below hb1)
  clear hb1
  rw [HR.out]
  obtain ⟨a0, a1, a2⟩ := HN.out.1.c3
  have hk := HK.out
  have hP := HPP.out
  rw [hk] at hP
  have HF : Hid (p = Lib.itoa n) := hP
  clear hP
  have t0 : ((k.toNat : Int) == 0) = false := by simp; omega
  have t1 : ((k.toNat : Int) == 1) = false := by simp; omega
  have t2 : ((k.toNat : Int) == 2) = true := by simp; omega
  clear hk
  obtain ⟨D, hD⟩ : ∃ T : ByteArray, T = ⟨(Prt.dgs (u) 1).toArray⟩ := ⟨_, rfl⟩
  have HDl : Hid (D.data.toList = Prt.dgs (u) 1) := by show _ = _; rw [hD]
  have HDc := fun w => digits_any (u) 1 w (by have := HUl.out; omega) (by omega) (by omega)
  simp only [← hD] at HDc
  have GD := hide HDc
  have hDs : D.size ≤ 21 := by
    rw [str_len' HDl.out]
    unfold Prt.dgs
    rw [Prt.low_len]
    have := Lib.nDigits_le20 (u) (by have := HUl.out; omega)
    omega
  clear hD HDc
  go_wp2_with fail
  refine (GD.out _).mono ?_
  rintro e w2 ⟨rfl, hb2⟩
  replace HN := hide (HN.out.below hb2)
  clear hb2
  clear a0 a1 a2
  go_wp2_with fail
  go_ret
  refine ⟨?_, HN.out.2⟩
  show Ending.returned (.string ((⟨#[45]⟩ : ByteArray) ++ D)) = _
  rw [ba_eq (a := (⟨#[45]⟩ : ByteArray) ++ D) (l := p)]
  rw [HF.out, Prt.itoa_minus, ← HMl.out, ← HU.out, ← Prt.dgs_one, ← HDl.out, ByteArray.data_append, Array.toList_append]

set_option maxRecDepth 20000 in
set_option maxHeartbeats 1600000 in
theorem rp_3p (k : UInt8) (n : Int) (s : ByteArray) (w : World) (h0 : -9223372036854775808 ≤ n) (h1 : n ≤ 9223372036854775807) (hk : k.toNat = 3) (hn : 0 ≤ n) (hR : Cell.rightB ⟨k, n, s⟩ = true) :
    Calls Tryd.prog 33 #[.agg #[.int .u8 (k.toNat : Int), .int .i64 n, .string s]] w fun e w' => e = .returned (.string ⟨(Prt.prt ⟨k, n, s⟩).toArray⟩) ∧ Below w.heap.size w w' := by
  obtain ⟨p, hp⟩ : ∃ p, p = Prt.prt ⟨k, n, s⟩ := ⟨_, rfl⟩
  rw [← hp]
  have HN := hide (VB.new w k n s)
  have hP1 := hp.trans (prt_of hR)
  simp only at hP1
  obtain ⟨-, hs⟩ := right_kind hR
  have HPP := hide hP1
  have HR := hide hR
  have HK := hide hk
  clear hP1 hp hR hk
  obtain ⟨u, hu⟩ : ∃ u, u = n.natAbs := ⟨_, rfl⟩
  obtain ⟨M, hM⟩ : ∃ M : ByteArray, M = ⟨(Prt.minus n).toArray⟩ := ⟨_, rfl⟩
  have hMl : M.data.toList = Prt.minus n := by rw [hM]
  have hM1 : M.size ≤ 1 := by rw [str_len' hMl]; unfold Prt.minus; split <;> simp
  have hul : u < 18446744073709551616 := by omega
  have HU := hide hu
  have HMl := hide hMl
  have HUl := hide hul
  clear hMl
  have q1 : IntKind.u64.wrap n = (u : Int) := by rw [IntKind.wrap_u64]; omega
  have q3 : decide (n < 0) = false := by simp; omega
  obtain rfl : M = ⟨#[]⟩ := by rw [hM]; unfold Prt.minus; rw [if_neg (by omega)]
  clear hM hn hu hul h0 h1
  go_enter Tryd.func33, Tryd.ntmps33
  go_wp2_with fail
  obtain ⟨w0, hw0⟩ : ∃ x, x = w.alloc (.cells #[.int .u8 (k.toNat : Int), .int .i64 n, .string s] 25) := ⟨_, rfl⟩
  rw [← hw0] at HN ⊢
  clear hw0
  with_reducible refine (refRight_any k n s w0).mono ?_
  rintro e w1 ⟨rfl, hb1⟩
  replace HN := hide (HN.out.below hb1)
  clear hb1
  rw [HR.out]
  obtain ⟨a0, a1, a2⟩ := HN.out.1.c3
  have hk := HK.out
  have hP := HPP.out
  rw [hk] at hP
  have HF : Hid (p = Prt.decTxt n) := hP
  clear hP
  have t0 : ((k.toNat : Int) == 0) = false := by simp; omega
  have t1 : ((k.toNat : Int) == 1) = false := by simp; omega
  have t2 : ((k.toNat : Int) == 2) = false := by simp; omega
  have t3 : ((k.toNat : Int) == 3) = true := by simp; omega
  clear hk
  obtain ⟨D, hD⟩ : ∃ T : ByteArray, T = ⟨(Prt.dgs (u / 10000) 1).toArray⟩ := ⟨_, rfl⟩
  have HDl : Hid (D.data.toList = Prt.dgs (u / 10000) 1) := by show _ = _; rw [hD]
  have HDc := fun w => digits_any (u / 10000) 1 w (by have := HUl.out; omega) (by omega) (by omega)
  simp only [← hD] at HDc
  have GD := hide HDc
  have hDs : D.size ≤ 21 := by
    rw [str_len' HDl.out]
    unfold Prt.dgs
    rw [Prt.low_len]
    have := Lib.nDigits_le20 (u / 10000) (by have := HUl.out; omega)
    omega
  clear hD HDc
  obtain ⟨E, hE⟩ : ∃ T : ByteArray, T = ⟨(Prt.dgs (u % 10000) 4).toArray⟩ := ⟨_, rfl⟩
  have HEl : Hid (E.data.toList = Prt.dgs (u % 10000) 4) := by show _ = _; rw [hE]
  have HEc := fun w => digits_any (u % 10000) 4 w (by have := HUl.out; omega) (by omega) (by omega)
  simp only [← hE] at HEc
  have GE := hide HEc
  have hEs : E.size ≤ 21 := by
    rw [str_len' HEl.out]
    unfold Prt.dgs
    rw [Prt.low_len]
    have := Lib.nDigits_le20 (u % 10000) (by have := HUl.out; omega)
    omega
  clear hE HEc
  obtain ⟨x, hx⟩ : ∃ x, x = u / 10000 := ⟨_, rfl⟩
  obtain ⟨y, hy⟩ : ∃ x, x = u % 10000 := ⟨_, rfl⟩
  have ex : (u : Int) / 10000 = (x : Int) := by omega
  have ey : (u : Int) % 10000 = (y : Int) := by omega
  have wx : IntKind.u64.wrap (x : Int) = (x : Int) := by have := HUl.out; rw [IntKind.wrap_u64]; omega
  have wy : IntKind.u64.wrap (y : Int) = (y : Int) := by have := HUl.out; rw [IntKind.wrap_u64]; omega
  rw [← hx] at GD HDl
  rw [← hy] at GE HEl
  have HX := hide hx
  have HY := hide hy
  clear hx hy
  go_wp2_with fail
  refine (GD.out _).mono ?_
  rintro e w2 ⟨rfl, hb2⟩
  replace HN := hide (HN.out.below hb2)
  clear hb2
  clear a0 a1 a2
  go_wp2_with fail
  refine (GE.out _).mono ?_
  rintro e w2 ⟨rfl, hb2⟩
  replace HN := hide (HN.out.below hb2)
  clear hb2
  go_wp2_with fail
  go_ret
  refine ⟨?_, HN.out.2⟩
  show Ending.returned (.string ((⟨#[]⟩ : ByteArray) ++ D ++ ⟨#[46]⟩ ++ E)) = _
  rw [ba_eq (a := (⟨#[]⟩ : ByteArray) ++ D ++ ⟨#[46]⟩ ++ E) (l := p)]
  rw [HF.out]
  unfold Prt.decTxt
  rw [← HMl.out, ← HU.out, ← HX.out, ← HY.out, ← Prt.dgs_one, ← HDl.out, ← HEl.out]
  simp [ByteArray.data_append]

set_option maxRecDepth 20000 in
set_option maxHeartbeats 1600000 in
theorem rp_3n (k : UInt8) (n : Int) (s : ByteArray) (w : World) (h0 : -9223372036854775808 ≤ n) (h1 : n ≤ 9223372036854775807) (hk : k.toNat = 3) (hn : n < 0) (hR : Cell.rightB ⟨k, n, s⟩ = true) :
    Calls Tryd.prog 33 #[.agg #[.int .u8 (k.toNat : Int), .int .i64 n, .string s]] w fun e w' => e = .returned (.string ⟨(Prt.prt ⟨k, n, s⟩).toArray⟩) ∧ Below w.heap.size w w' := by
  obtain ⟨p, hp⟩ : ∃ p, p = Prt.prt ⟨k, n, s⟩ := ⟨_, rfl⟩
  rw [← hp]
  have HN := hide (VB.new w k n s)
  have hP1 := hp.trans (prt_of hR)
  simp only at hP1
  obtain ⟨-, hs⟩ := right_kind hR
  have HPP := hide hP1
  have HR := hide hR
  have HK := hide hk
  clear hP1 hp hR hk
  obtain ⟨u, hu⟩ : ∃ u, u = n.natAbs := ⟨_, rfl⟩
  obtain ⟨M, hM⟩ : ∃ M : ByteArray, M = ⟨(Prt.minus n).toArray⟩ := ⟨_, rfl⟩
  have hMl : M.data.toList = Prt.minus n := by rw [hM]
  have hM1 : M.size ≤ 1 := by rw [str_len' hMl]; unfold Prt.minus; split <;> simp
  have hul : u < 18446744073709551616 := by omega
  have HU := hide hu
  have HMl := hide hMl
  have HUl := hide hul
  clear hMl
  obtain ⟨a, ha⟩ : ∃ a : Nat, (a : Int) = n % 18446744073709551616 := ⟨(n % 18446744073709551616).toNat, by omega⟩
  have q1 : IntKind.u64.wrap n = (a : Int) := by rw [IntKind.wrap_u64]; omega
  have q2 : IntKind.u64.wrap (-(a : Int)) = (u : Int) := by rw [IntKind.wrap_u64]; omega
  have q3 : decide (n < 0) = true := by simp; omega
  obtain rfl : M = ⟨#[45]⟩ := by rw [hM]; unfold Prt.minus; rw [if_pos hn]
  clear hM hn ha hu hul h0 h1
  go_enter Tryd.func33, Tryd.ntmps33
  go_wp2_with fail
  obtain ⟨w0, hw0⟩ : ∃ x, x = w.alloc (.cells #[.int .u8 (k.toNat : Int), .int .i64 n, .string s] 25) := ⟨_, rfl⟩
  rw [← hw0] at HN ⊢
  clear hw0
  with_reducible refine (refRight_any k n s w0).mono ?_
  rintro e w1 ⟨rfl, hb1⟩
  replace HN := hide (HN.out.below hb1)
  clear hb1
  rw [HR.out]
  obtain ⟨a0, a1, a2⟩ := HN.out.1.c3
  have hk := HK.out
  have hP := HPP.out
  rw [hk] at hP
  have HF : Hid (p = Prt.decTxt n) := hP
  clear hP
  have t0 : ((k.toNat : Int) == 0) = false := by simp; omega
  have t1 : ((k.toNat : Int) == 1) = false := by simp; omega
  have t2 : ((k.toNat : Int) == 2) = false := by simp; omega
  have t3 : ((k.toNat : Int) == 3) = true := by simp; omega
  clear hk
  obtain ⟨D, hD⟩ : ∃ T : ByteArray, T = ⟨(Prt.dgs (u / 10000) 1).toArray⟩ := ⟨_, rfl⟩
  have HDl : Hid (D.data.toList = Prt.dgs (u / 10000) 1) := by show _ = _; rw [hD]
  have HDc := fun w => digits_any (u / 10000) 1 w (by have := HUl.out; omega) (by omega) (by omega)
  simp only [← hD] at HDc
  have GD := hide HDc
  have hDs : D.size ≤ 21 := by
    rw [str_len' HDl.out]
    unfold Prt.dgs
    rw [Prt.low_len]
    have := Lib.nDigits_le20 (u / 10000) (by have := HUl.out; omega)
    omega
  clear hD HDc
  obtain ⟨E, hE⟩ : ∃ T : ByteArray, T = ⟨(Prt.dgs (u % 10000) 4).toArray⟩ := ⟨_, rfl⟩
  have HEl : Hid (E.data.toList = Prt.dgs (u % 10000) 4) := by show _ = _; rw [hE]
  have HEc := fun w => digits_any (u % 10000) 4 w (by have := HUl.out; omega) (by omega) (by omega)
  simp only [← hE] at HEc
  have GE := hide HEc
  have hEs : E.size ≤ 21 := by
    rw [str_len' HEl.out]
    unfold Prt.dgs
    rw [Prt.low_len]
    have := Lib.nDigits_le20 (u % 10000) (by have := HUl.out; omega)
    omega
  clear hE HEc
  obtain ⟨x, hx⟩ : ∃ x, x = u / 10000 := ⟨_, rfl⟩
  obtain ⟨y, hy⟩ : ∃ x, x = u % 10000 := ⟨_, rfl⟩
  have ex : (u : Int) / 10000 = (x : Int) := by omega
  have ey : (u : Int) % 10000 = (y : Int) := by omega
  have wx : IntKind.u64.wrap (x : Int) = (x : Int) := by have := HUl.out; rw [IntKind.wrap_u64]; omega
  have wy : IntKind.u64.wrap (y : Int) = (y : Int) := by have := HUl.out; rw [IntKind.wrap_u64]; omega
  rw [← hx] at GD HDl
  rw [← hy] at GE HEl
  have HX := hide hx
  have HY := hide hy
  clear hx hy
  go_wp2_with fail
  refine (GD.out _).mono ?_
  rintro e w2 ⟨rfl, hb2⟩
  replace HN := hide (HN.out.below hb2)
  clear hb2
  clear a0 a1 a2
  go_wp2_with fail
  refine (GE.out _).mono ?_
  rintro e w2 ⟨rfl, hb2⟩
  replace HN := hide (HN.out.below hb2)
  clear hb2
  go_wp2_with fail
  go_ret
  refine ⟨?_, HN.out.2⟩
  show Ending.returned (.string ((⟨#[45]⟩ : ByteArray) ++ D ++ ⟨#[46]⟩ ++ E)) = _
  rw [ba_eq (a := (⟨#[45]⟩ : ByteArray) ++ D ++ ⟨#[46]⟩ ++ E) (l := p)]
  rw [HF.out]
  unfold Prt.decTxt
  rw [← HMl.out, ← HU.out, ← HX.out, ← HY.out, ← Prt.dgs_one, ← HDl.out, ← HEl.out]
  simp [ByteArray.data_append]

set_option maxRecDepth 20000 in
set_option maxHeartbeats 1600000 in
theorem rp_4p (k : UInt8) (n : Int) (s : ByteArray) (w : World) (h0 : -9223372036854775808 ≤ n) (h1 : n ≤ 9223372036854775807) (hk : k.toNat = 4) (hn : 0 ≤ n) (hR : Cell.rightB ⟨k, n, s⟩ = true) :
    Calls Tryd.prog 33 #[.agg #[.int .u8 (k.toNat : Int), .int .i64 n, .string s]] w fun e w' => e = .returned (.string ⟨(Prt.prt ⟨k, n, s⟩).toArray⟩) ∧ Below w.heap.size w w' := by
  obtain ⟨p, hp⟩ : ∃ p, p = Prt.prt ⟨k, n, s⟩ := ⟨_, rfl⟩
  rw [← hp]
  have HN := hide (VB.new w k n s)
  have hP1 := hp.trans (prt_of hR)
  simp only at hP1
  obtain ⟨-, hs⟩ := right_kind hR
  have HPP := hide hP1
  have HR := hide hR
  have HK := hide hk
  clear hP1 hp hR hk
  obtain ⟨u, hu⟩ : ∃ u, u = n.natAbs := ⟨_, rfl⟩
  obtain ⟨M, hM⟩ : ∃ M : ByteArray, M = ⟨(Prt.minus n).toArray⟩ := ⟨_, rfl⟩
  have hMl : M.data.toList = Prt.minus n := by rw [hM]
  have hM1 : M.size ≤ 1 := by rw [str_len' hMl]; unfold Prt.minus; split <;> simp
  have hul : u < 18446744073709551616 := by omega
  have HU := hide hu
  have HMl := hide hMl
  have HUl := hide hul
  clear hMl
  have q1 : IntKind.u64.wrap n = (u : Int) := by rw [IntKind.wrap_u64]; omega
  have q3 : decide (n < 0) = false := by simp; omega
  obtain rfl : M = ⟨#[]⟩ := by rw [hM]; unfold Prt.minus; rw [if_neg (by omega)]
  clear hM hn hu hul h0 h1
  go_enter Tryd.func33, Tryd.ntmps33
  go_wp2_with fail
  obtain ⟨w0, hw0⟩ : ∃ x, x = w.alloc (.cells #[.int .u8 (k.toNat : Int), .int .i64 n, .string s] 25) := ⟨_, rfl⟩
  rw [← hw0] at HN ⊢
  clear hw0
  with_reducible refine (refRight_any k n s w0).mono ?_
  rintro e w1 ⟨rfl, hb1⟩
  replace HN := hide (HN.out.below hb1)
  clear hb1
  rw [HR.out]
  obtain ⟨a0, a1, a2⟩ := HN.out.1.c3
  have hk := HK.out
  have hP := HPP.out
  rw [hk] at hP
  have HF : Hid (p = [39] ++ Prt.quo s.data.toList ++ [39]) := hP
  clear hP
  have t0 : ((k.toNat : Int) == 0) = false := by simp; omega
  have t1 : ((k.toNat : Int) == 1) = false := by simp; omega
  have t2 : ((k.toNat : Int) == 2) = false := by simp; omega
  have t3 : ((k.toNat : Int) == 3) = false := by simp; omega
  have t4 : ((k.toNat : Int) == 4) = true := by simp; omega
  clear hk
  go_wp2_with fail
  go_loop [5, 6] (fun v i => ∃ (j : Nat) (acc : ByteArray), i = .int .i64 (j : Nat) ∧ v = .string acc ∧ j ≤ s.size ∧ acc.data.toList = [39] ++ Prt.quo (s.data.toList.take j)) (fun _ i => s.size - (intOf i).toNat)
  case atStart => exact ⟨0, _, rfl, rfl, Nat.zero_le _, rfl⟩
  case round =>
    obtain ⟨j, acc, rfl, rfl, hj, hacc⟩ := hrel
    have hal : acc.size ≤ 401 := by
      rw [str_len' hacc]
      have := Prt.quo_len (s.data.toList.take j)
      have e := List.length_take_le j s.data.toList
      simp only [List.length_append, List.length_cons, List.length_nil]
      omega
    have HA := hide hacc
    clear hacc
    by_cases hlt : j < s.size
    · obtain ⟨c, hc⟩ : ∃ c, c = s[j] := ⟨_, rfl⟩
      have HQ : Hid (Prt.quo (s.data.toList.take (j + 1)) = Prt.quo (s.data.toList.take j) ++ if c.toNat = 39 then [39, 39] else [c]) := by
        show _ = _
        rw [byte_at hlt, Prt.quo_snoc, hc]
      have HC := hide (cut_one hlt)
      have HE := hide hc
      by_cases h39 : c.toNat = 39
      · have t7 : (s[j].toNat : Int) = 39 := by rw [← hc]; omega
        have HQ2 := hide (HQ.out.trans (by rw [if_pos h39]))
        have hc39 : c = 39 := UInt8.toNat_inj.1 h39
        have HC39 := hide hc39
        clear h39 hc hc39
        go_wp2_with fail
        refine ⟨⟨j + 1, _, by go_num, rfl, hlt, ?_⟩, by simp [intOf]; omega⟩
        rw [ByteArray.data_append, Array.toList_append, HC.out, ← HE.out, ByteArray.data_append, Array.toList_append, HA.out, HQ2.out, HC39.out]
        simp
      · have t7 : ((s[j].toNat : Int) == 39) = false := by rw [← hc]; simp; omega
        have HQ2 := hide (HQ.out.trans (by rw [if_neg h39]))
        clear h39 hc
        go_wp2_with fail
        refine ⟨⟨j + 1, _, by go_num, rfl, hlt, ?_⟩, by simp [intOf]; omega⟩
        rw [ByteArray.data_append, Array.toList_append, HC.out, ← HE.out, HA.out, HQ2.out]
        simp
    · obtain rfl : j = s.size := by omega
      rw [take_all] at HA
      clear hlt hj
      go_wp2_with fail
      go_ret
      refine ⟨?_, HN.out.2⟩
      show Ending.returned (.string (acc ++ ⟨#[39]⟩)) = _
      rw [ba_eq (a := acc ++ ⟨#[39]⟩) (l := p)]
      rw [HF.out, ByteArray.data_append, Array.toList_append, HA.out]

set_option maxRecDepth 20000 in
set_option maxHeartbeats 1600000 in
theorem rp_5p (k : UInt8) (n : Int) (s : ByteArray) (w : World) (h0 : -9223372036854775808 ≤ n) (h1 : n ≤ 9223372036854775807) (hk : k.toNat = 5) (hn : 0 ≤ n) (hR : Cell.rightB ⟨k, n, s⟩ = true) :
    Calls Tryd.prog 33 #[.agg #[.int .u8 (k.toNat : Int), .int .i64 n, .string s]] w fun e w' => e = .returned (.string ⟨(Prt.prt ⟨k, n, s⟩).toArray⟩) ∧ Below w.heap.size w w' := by
  obtain ⟨p, hp⟩ : ∃ p, p = Prt.prt ⟨k, n, s⟩ := ⟨_, rfl⟩
  rw [← hp]
  have HN := hide (VB.new w k n s)
  have hP1 := hp.trans (prt_of hR)
  simp only at hP1
  obtain ⟨-, hs⟩ := right_kind hR
  have HPP := hide hP1
  have HR := hide hR
  have HK := hide hk
  clear hP1 hp hR hk
  obtain ⟨u, hu⟩ : ∃ u, u = n.natAbs := ⟨_, rfl⟩
  obtain ⟨M, hM⟩ : ∃ M : ByteArray, M = ⟨(Prt.minus n).toArray⟩ := ⟨_, rfl⟩
  have hMl : M.data.toList = Prt.minus n := by rw [hM]
  have hM1 : M.size ≤ 1 := by rw [str_len' hMl]; unfold Prt.minus; split <;> simp
  have hul : u < 18446744073709551616 := by omega
  have HU := hide hu
  have HMl := hide hMl
  have HUl := hide hul
  clear hMl
  have q1 : IntKind.u64.wrap n = (u : Int) := by rw [IntKind.wrap_u64]; omega
  have q3 : decide (n < 0) = false := by simp; omega
  obtain rfl : M = ⟨#[]⟩ := by rw [hM]; unfold Prt.minus; rw [if_neg (by omega)]
  clear hM hn hu hul h0 h1
  go_enter Tryd.func33, Tryd.ntmps33
  go_wp2_with fail
  obtain ⟨w0, hw0⟩ : ∃ x, x = w.alloc (.cells #[.int .u8 (k.toNat : Int), .int .i64 n, .string s] 25) := ⟨_, rfl⟩
  rw [← hw0] at HN ⊢
  clear hw0
  with_reducible refine (refRight_any k n s w0).mono ?_
  rintro e w1 ⟨rfl, hb1⟩
  replace HN := hide (HN.out.below hb1)
  clear hb1
  rw [HR.out]
  obtain ⟨a0, a1, a2⟩ := HN.out.1.c3
  have hk := HK.out
  have hP := HPP.out
  rw [hk] at hP
  have HF : Hid (p = [120, 39] ++ Prt.hexs s.data.toList ++ [39]) := hP
  clear hP
  have t0 : ((k.toNat : Int) == 0) = false := by simp; omega
  have t1 : ((k.toNat : Int) == 1) = false := by simp; omega
  have t2 : ((k.toNat : Int) == 2) = false := by simp; omega
  have t3 : ((k.toNat : Int) == 3) = false := by simp; omega
  have t4 : ((k.toNat : Int) == 4) = false := by simp; omega
  clear hk
  go_wp2_with fail
  clear a0 a1 a2
  go_loopw [7, 8] (fun v i wr => ∃ (j : Nat) (acc : ByteArray), i = .int .i64 (j : Nat) ∧ v = .string acc ∧ j ≤ s.size ∧ acc.data.toList = [120, 39] ++ Prt.hexs (s.data.toList.take j) ∧ VB w wr k n s) (fun _ i _ => s.size - (intOf i).toNat)
  case atStart => exact ⟨0, _, rfl, rfl, Nat.zero_le _, rfl, HN.out⟩
  case round =>
    obtain ⟨j, acc, rfl, rfl, hj, hacc, hvb⟩ := hrel
    have hal : acc.size ≤ 402 := by
      rw [str_len' hacc]
      have := Prt.hexs_len (s.data.toList.take j)
      have e := List.length_take_le j s.data.toList
      simp only [List.length_append, List.length_cons, List.length_nil]
      rw [this]
      omega
    have HA := hide hacc
    clear hacc HN
    have HN := hide hvb
    clear hvb
    obtain ⟨a0, a1, a2⟩ := HN.out.1.c3
    by_cases hlt : j < s.size
    · obtain ⟨c, hc⟩ : ∃ c, c = s[j] := ⟨_, rfl⟩
      have hcb := c.toNat_lt
      obtain ⟨x, hx⟩ : ∃ x, x = c.toNat / 16 := ⟨_, rfl⟩
      obtain ⟨y, hy⟩ : ∃ x, x = c.toNat % 16 := ⟨_, rfl⟩
      have HQ : Hid (Prt.hexs (s.data.toList.take (j + 1)) = Prt.hexs (s.data.toList.take j) ++ [Prt.hexc x, Prt.hexc y]) := by
        show _ = _
        rw [byte_at hlt, Prt.hexs_snoc, ← hc, hx, hy]
      have HE := hide hc
      have ex : (c.toNat : Int) / 16 = (x : Int) := by omega
      have ey : (c.toNat : Int) % 16 = (y : Int) := by omega
      have hx16 : x < 16 := by omega
      have hy16 : y < 16 := by omega
      have ux : IntKind.u8.wrap (x : Int) = (x : Int) := by rw [IntKind.wrap_u8]; omega
      have uy : IntKind.u8.wrap (y : Int) = (y : Int) := by rw [IntKind.wrap_u8]; omega
      have wx : IntKind.u8.wrap ((x : Int) + 1) = (x : Int) + 1 := by rw [IntKind.wrap_u8]; omega
      have wy : IntKind.u8.wrap ((y : Int) + 1) = (y : Int) + 1 := by rw [IntKind.wrap_u8]; omega
      have ix : (x : Int) < 16 := by omega
      have iy : (y : Int) < 16 := by omega
      clear hc hx hy hcb
      go_wp2_with fail
      clear a0 a1 a2
      refine wp_region_flow (fun w' => VB w w' k n s) 27 (by kernel_rfl) (by kernel_rfl) HN.out.drew ?_
      simp only [List.take_succ_cons, List.take_zero, List.drop_succ_cons, List.drop_zero]
      refine wpFlow_read ?_ rfl (fun w' hS => ?_) ?_
      rotate_left
      · go_simp
        rfl
      refine wpFlow_read ?_ rfl (fun w' hS => ?_) ?_
      rotate_left
      · go_simp
        rfl
      refine wpFlow_read ?_ rfl (fun w' hS => ?_) ?_
      rotate_left
      · obtain ⟨a0, a1, a2⟩ := hS.1.c3
        go_simp
        rfl
      refine wpFlow_read ?_ rfl (fun w' hS => ?_) ?_
      rotate_left
      · go_simp
        rfl
      refine wpFlow_read (.int .u8 (c.toNat : Int)) rfl (fun w' hS => ?_) ?_
      · go_simp
        rw [HE.out]
      refine wpFlow_read (.int .u8 (x : Int)) rfl (fun w' hS => ?_) ?_
      · go_simp
      refine wpFlow_read ?_ rfl (fun w' hS => ?_) ?_
      rotate_left
      · go_simp
        rfl
      refine wpFlow_read ?_ rfl (fun w' hS => ?_) ?_
      rotate_left
      · obtain ⟨a0, a1, a2⟩ := hS.1.c3
        go_simp
        rfl
      refine wpFlow_read ?_ rfl (fun w' hS => ?_) ?_
      rotate_left
      · go_simp
        rfl
      refine wpFlow_read (.int .u8 (c.toNat : Int)) rfl (fun w' hS => ?_) ?_
      · go_simp
        rw [HE.out]
      refine wpFlow_read (.int .u8 (x : Int)) rfl (fun w' hS => ?_) ?_
      · go_simp
      refine wpFlow_read (.int .u8 ((x : Int) + 1)) rfl (fun w' hS => ?_) ?_
      · go_simp
      refine wpFlow_read (.string ⟨#[Prt.hexc x]⟩) rfl (fun w' hS => ?_) ?_
      · go_simp
        rw [if_pos ⟨by omega, by omega⟩, if_pos (by omega), hex_cut x hx16]
      refine wpFlow_read ?_ rfl (fun w' hS => ?_) ?_
      rotate_left
      · go_simp
        rw [if_neg (by omega)]
      refine wpFlow_read ?_ rfl (fun w' hS => ?_) ?_
      rotate_left
      · go_simp
        rfl
      refine wpFlow_read ?_ rfl (fun w' hS => ?_) ?_
      rotate_left
      · obtain ⟨a0, a1, a2⟩ := hS.1.c3
        go_simp
        rfl
      refine wpFlow_read ?_ rfl (fun w' hS => ?_) ?_
      rotate_left
      · go_simp
        rfl
      refine wpFlow_read (.int .u8 (c.toNat : Int)) rfl (fun w' hS => ?_) ?_
      · go_simp
        rw [HE.out]
      refine wpFlow_read (.int .u8 (y : Int)) rfl (fun w' hS => ?_) ?_
      · go_simp
        rw [Int.tmod_eq_emod_of_nonneg (by omega)]
        exact ey
      refine wpFlow_read ?_ rfl (fun w' hS => ?_) ?_
      rotate_left
      · go_simp
        rfl
      refine wpFlow_read ?_ rfl (fun w' hS => ?_) ?_
      rotate_left
      · obtain ⟨a0, a1, a2⟩ := hS.1.c3
        go_simp
        rfl
      refine wpFlow_read ?_ rfl (fun w' hS => ?_) ?_
      rotate_left
      · go_simp
        rfl
      refine wpFlow_read (.int .u8 (c.toNat : Int)) rfl (fun w' hS => ?_) ?_
      · go_simp
        rw [HE.out]
      refine wpFlow_read (.int .u8 (y : Int)) rfl (fun w' hS => ?_) ?_
      · go_simp
        rw [Int.tmod_eq_emod_of_nonneg (by omega)]
        exact ey
      refine wpFlow_read (.int .u8 ((y : Int) + 1)) rfl (fun w' hS => ?_) ?_
      · go_simp
      refine wpFlow_read (.string ⟨#[Prt.hexc y]⟩) rfl (fun w' hS => ?_) ?_
      · go_simp
        rw [if_pos ⟨by omega, by omega⟩, if_pos (by omega), hex_cut y hy16]
      refine wpFlow_read ?_ rfl (fun w' hS => ?_) ?_
      rotate_left
      · go_simp
        rw [if_neg (by omega)]
      refine wpFlow_nil fun w3 hS => ?_
      clear HN
      have HN := hide hS
      clear hS
      go_frame
      go_wp2_with fail
      refine ⟨⟨j + 1, _, by go_num, rfl, hlt, ?_, HN.out⟩, by simp [intOf]; omega⟩
      rw [HQ.out, ← List.append_assoc, ← HA.out]
      simp [ByteArray.data_append]
    · obtain rfl : j = s.size := by omega
      rw [take_all] at HA
      clear hlt hj
      go_wp2_with fail
      go_ret
      refine ⟨?_, HN.out.2⟩
      show Ending.returned (.string (acc ++ ⟨#[39]⟩)) = _
      rw [ba_eq (a := acc ++ ⟨#[39]⟩) (l := p)]
      rw [HF.out, ByteArray.data_append, Array.toList_append, HA.out]

theorem rp_bad (k : UInt8) (n : Int) (s : ByteArray) (w : World) (hR : Cell.rightB ⟨k, n, s⟩ = false) :
    Calls Tryd.prog 33 #[.agg #[.int .u8 (k.toNat : Int), .int .i64 n, .string s]] w fun e w' => e = .returned (.string ⟨(Prt.prt ⟨k, n, s⟩).toArray⟩) ∧ Below w.heap.size w w' := by
  have HF : Hid (Prt.prt ⟨k, n, s⟩ = []) := if_pos hR
  have HN := hide (VB.new w k n s)
  have HR := hide hR
  rw [HF.out]
  clear hR
  go_enter Tryd.func33, Tryd.ntmps33
  go_wp2_with fail
  obtain ⟨w0, hw0⟩ : ∃ x, x = w.alloc (.cells #[.int .u8 (k.toNat : Int), .int .i64 n, .string s] 25) := ⟨_, rfl⟩
  rw [← hw0] at HN ⊢
  clear hw0
  with_reducible refine (refRight_any k n s w0).mono ?_
  rintro e w1 ⟨rfl, hb1⟩
  replace HN := hide (HN.out.below hb1)
  clear hb1
  rw [HR.out]
  go_wp2_with fail
  go_ret
  exact ⟨rfl, HN.out.2⟩
theorem right_n {k : UInt8} {n : Int} {s : ByteArray} (h : Cell.rightB ⟨k, n, s⟩ = true) (h2 : k.toNat ≠ 2) (h3 : k.toNat ≠ 3) : 0 ≤ n := by
  unfold Cell.rightB at h
  simp only at h
  split at h
  · simp at h; omega
  · simp at h; omega
  · rename_i e; omega
  · rename_i e; omega
  · simp at h; omega
  · simp at h; omega
  · cases h
theorem rPrint_any (k : UInt8) (n : Int) (s : ByteArray) (w : World) (h0 : -9223372036854775808 ≤ n) (h1 : n ≤ 9223372036854775807) :
    Calls Tryd.prog 33 #[.agg #[.int .u8 (k.toNat : Int), .int .i64 n, .string s]] w fun e w' => e = .returned (.string ⟨(Prt.prt ⟨k, n, s⟩).toArray⟩) ∧ Below w.heap.size w w' := by
  cases hR : Cell.rightB ⟨k, n, s⟩ with
  | false => exact rp_bad k n s w hR
  | true =>
    obtain ⟨hk, _⟩ := right_kind hR
    obtain hk | hk | hk | hk | hk | hk : k.toNat = 0 ∨ k.toNat = 1 ∨ k.toNat = 2 ∨ k.toNat = 3 ∨ k.toNat = 4 ∨ k.toNat = 5 := by omega
    · exact rp_0p k n s w h0 h1 hk (right_n hR (by omega) (by omega)) hR
    · exact rp_1p k n s w h0 h1 hk (right_n hR (by omega) (by omega)) hR
    · by_cases hn : n < 0
      · exact rp_2n k n s w h0 h1 hk hn hR
      · exact rp_2p k n s w h0 h1 hk (by omega) hR
    · by_cases hn : n < 0
      · exact rp_3n k n s w h0 h1 hk hn hR
      · exact rp_3p k n s w h0 h1 hk (by omega) hR
    · exact rp_4p k n s w h0 h1 hk (right_n hR (by omega) (by omega)) hR
    · exact rp_5p k n s w h0 h1 hk (right_n hR (by omega) (by omega)) hR
end Go.Proofs.YthmlfbbbcmmhdaaDoor
