/-
  The walk of value.against. Conditions: right numbers within 64 bits.
-/
import Derived.Test.YticljmgcgjibpaaDoorLogB
import Derived.Test.YticljmgcgjibpaaDoorValC
import Derived.Test.YticljmgcgjibpaaDoorOrdV
import Derived.WalkLawsBesides
namespace Go.Proofs.YticljmgcgjibpaaDoor
open Go.RowKit

def or2 (a b : Int) : Int := if a ≠ 0 then a else b
def OrTo2 (a b : Int) (k : Nat) : Prop := k = 0 ∨ (k = 1 ∧ a = 0) ∨ (k = 2 ∧ a = 0 ∧ b = 0)
set_option maxHeartbeats 400000 in
theorem or2_any (g : Nat) (a b : Int) (w : World) (h0 : w.cell? ⟨g, 0, none⟩ = some (.int .i64 a)) (h1 : w.cell? ⟨g, 1, none⟩ = some (.int .i64 b)) :
    Calls Tryd.prog 23 #[.slice (some ⟨g, 0, none⟩) 2 2] w fun e w' => e = .returned (.int .i64 (or2 a b)) ∧ w = w' := by
  go_enter Tryd.func23, Tryd.ntmps23
  go_wp2_with fail
  go_loop [8] (fun i => ∃ k : Nat, i = .int .i64 (k : Nat) ∧ OrTo2 a b k) (fun i => 2 - (intOf i).toNat)
  case atStart => exact ⟨0, rfl, Or.inl rfl⟩
  case round =>
    obtain ⟨k, rfl, hr⟩ := hrel
    rcases hr with rfl | ⟨rfl, rfl⟩ | ⟨rfl, rfl, rfl⟩
    · by_cases ha : a = 0
      · subst ha
        go_wp2_with fail
        exact ⟨⟨1, rfl, Or.inr (Or.inl ⟨rfl, rfl⟩)⟩, by simp [intOf]⟩
      · have HF : Hid (or2 a b = a) := by show _ = _; unfold or2; rw [if_pos ha]
        have t : (a != 0) = true := by simpa using ha
        go_wp2_with fail
        go_ret
        exact ⟨by rw [HF.out]; rfl, rfl⟩
    · by_cases hb : b = 0
      · subst hb
        go_wp2_with fail
        exact ⟨⟨2, rfl, Or.inr (Or.inr ⟨rfl, rfl, rfl⟩)⟩, by simp [intOf]⟩
      · have HF : Hid (or2 0 b = b) := by show _ = _; unfold or2; rw [if_neg (by omega)]
        have t : (b != 0) = true := by simpa using hb
        go_wp2_with fail
        go_ret
        exact ⟨by rw [HF.out]; rfl, rfl⟩
    · have HF : Hid (or2 0 0 = 0) := rfl
      go_wp2_with fail
      go_ret
      exact ⟨by rw [HF.out]; rfl, rfl⟩
/-- Which of two stands ahead: numbers by what they are worth, others by their order. -/
def cmpV (a b : Cell.Val) : Int := if a.k = b.k then ordV a b else cmpI (Val.fixed a) (Val.fixed b)
theorem cmpI_neg (a b : Int) : -cmpI a b = cmpI b a := by
  unfold cmpI
  by_cases h1 : a < b
  · rw [if_pos h1, if_neg (by omega), if_pos h1]; rfl
  · rw [if_neg h1]
    by_cases h2 : b < a
    · rw [if_pos h2, if_pos h2]
    · rw [if_neg h2, if_neg h2, if_neg h1]; rfl
theorem cmp_mixed (n n' : Int) : or2 (cmpI n (n'.tdiv 10000)) (cmpI 0 (n'.tmod 10000)) = cmpI (n * 10000) n' := by
  have h := Int.mul_tdiv_add_tmod n' 10000
  have hb : -10000 < n'.tmod 10000 ∧ n'.tmod 10000 < 10000 := by
    have h1 := Int.tmod_lt_of_pos n' (show (0 : Int) < 10000 by omega)
    have h2 := Int.lt_tmod_of_pos n' (show (0 : Int) < 10000 by omega)
    omega
  have hs : (0 ≤ n' → 0 ≤ n'.tmod 10000) ∧ (n' ≤ 0 → n'.tmod 10000 ≤ 0) := by
    refine ⟨fun h => Int.tmod_nonneg _ h, fun h => ?_⟩
    have := Int.tmod_nonneg 10000 (show 0 ≤ -n' by omega)
    rw [Int.neg_tmod] at this
    omega
  have hd : (0 ≤ n' → 0 ≤ n'.tdiv 10000) ∧ (n' ≤ 0 → n'.tdiv 10000 ≤ 0) := by
    constructor <;> intro _ <;> omega
  generalize n'.tdiv 10000 = q at *
  generalize n'.tmod 10000 = r at *
  unfold or2 cmpI
  by_cases h1 : n < q
  · rw [if_pos h1, if_pos (by omega), if_pos (by omega)]
  · rw [if_neg h1]
    by_cases h2 : q < n
    · rw [if_pos h2, if_pos (by omega), if_neg (by omega), if_pos (by omega)]
    · rw [if_neg h2, if_neg (by omega)]
      obtain rfl : n = q := by omega
      by_cases h3 : 0 < r
      · rw [if_pos h3, if_pos (by omega)]
      · rw [if_neg h3]
        by_cases h4 : r < 0
        · rw [if_pos h4, if_neg (by omega), if_pos (by omega)]
        · rw [if_neg h4, if_neg (by omega), if_neg (by omega)]
set_option maxRecDepth 20000 in
set_option maxHeartbeats 800000 in
theorem against_mixed (k : UInt8) (n : Int) (s : ByteArray) (k' : UInt8) (n' : Int) (s' : ByteArray) (w : World) (hk : k.toNat = 2) (hk' : k'.toNat = 3) (h0' : -9223372036854775808 ≤ n') (h1' : n' ≤ 9223372036854775807) :
    Calls Tryd.prog 53 #[.agg #[.int .u8 (k.toNat : Int), .int .i64 n, .string s], .agg #[.int .u8 (k'.toNat : Int), .int .i64 n', .string s']] w fun e w' => e = .returned (.int .i64 (cmpI (n * 10000) n')) ∧ Below w.heap.size w w' := by
  have HN := hide (V2.new w k n s k' n' s')
  have HM := hide (cmp_mixed n n')
  have t1 : ((k.toNat : Int) == (k'.toNat : Int)) = false := by simp; omega
  have t2 : ((k.toNat : Int) == 3) = false := by simp; omega
  clear hk hk'
  go_enter Tryd.func53, Tryd.ntmps53
  go_wp2_with fail
  obtain ⟨w0, hw0⟩ : ∃ x, x = (w.alloc (.cells #[.int .u8 (k.toNat : Int), .int .i64 n, .string s] 24)).alloc (.cells #[.int .u8 (k'.toNat : Int), .int .i64 n', .string s'] 24) := ⟨_, rfl⟩
  rw [← hw0] at HN ⊢
  clear hw0
  obtain ⟨a0, a1, a2⟩ := HN.out.1.c3
  obtain ⟨b0, b1, b2⟩ := HN.out.2.1.c3
  go_wp2_with fail
  go_quiet (fail)
  obtain ⟨x, hx⟩ : ∃ x, x = cmpI n (n'.tdiv 10000) := ⟨_, rfl⟩
  obtain ⟨y, hy⟩ : ∃ x, x = cmpI 0 (n'.tmod 10000) := ⟨_, rfl⟩
  have HX := hide hx
  have HY := hide hy
  rw [← hx, ← hy] at HM
  clear hx hy
  go_wp2_with fail
  with_reducible refine (ccompareI n (n'.tdiv 10000) _).mono ?_
  rintro e w' ⟨rfl, rfl⟩
  rw [← HX.out]
  go_wp2_with fail
  with_reducible refine (ccompareI 0 (n'.tmod 10000) _).mono ?_
  rintro e w' ⟨rfl, rfl⟩
  rw [← HY.out]
  clear a0 a1 a2 b0 b1 b2
  have hz0 := HN.out.2.2.size
  go_wp2_with fail
  have HK := hide (Blk.new (w0.drewN nq) 3 #[.int .i64 x, .int .i64 y])
  refine (or2_any w0.heap.size x y _ (HK.out.cell 0) (HK.out.cell 1)).mono ?_
  rintro e w2 ⟨rfl, rfl⟩
  rw [HM.out]
  go_wp2_with fail
  go_ret
  exact ⟨rfl, (below_drewN HN.out.2.2 nq).alloc (by simpa using hz0) _⟩
theorem right_num {k : UInt8} {n : Int} {s : ByteArray} (h : Cell.rightB ⟨k, n, s⟩ = true) (hk : k.toNat = 2 ∨ k.toNat = 3) : s.data.toList = [] := by
  unfold Cell.rightB at h
  have : s.size = 0 := by rcases hk with hk | hk <;> simp only [hk] at h <;> simpa using h
  exact List.eq_nil_of_length_eq_zero (by rw [Array.length_toList]; exact this)
theorem ordV_num {a b : Cell.Val} (hk : a.k = b.k) (ha : a.s.data.toList = []) (hb : b.s.data.toList = []) : ordV a b = cmpI a.n b.n := by
  unfold ordV or3
  rw [hk, cmpI_eq, if_neg (by omega), ha, hb]
  by_cases h : cmpI a.n b.n = 0
  · rw [if_neg (by omega), h]; rfl
  · rw [if_pos h]
set_option maxRecDepth 20000 in
set_option maxHeartbeats 800000 in
theorem against_any (k : UInt8) (n : Int) (s : ByteArray) (k' : UInt8) (n' : Int) (s' : ByteArray) (w : World) (hk : k.toNat = 2 ∨ k.toNat = 3) (hk' : k'.toNat = 2 ∨ k'.toNat = 3) (hr : Cell.rightB ⟨k, n, s⟩ = true) (hr' : Cell.rightB ⟨k', n', s'⟩ = true)
    (h0 : -9223372036854775808 ≤ n) (h1 : n ≤ 9223372036854775807) (h0' : -9223372036854775808 ≤ n') (h1' : n' ≤ 9223372036854775807) :
    Calls Tryd.prog 53 #[.agg #[.int .u8 (k.toNat : Int), .int .i64 n, .string s], .agg #[.int .u8 (k'.toNat : Int), .int .i64 n', .string s']] w fun e w' => e = .returned (.int .i64 (cmpV ⟨k, n, s⟩ ⟨k', n', s'⟩)) ∧ Below w.heap.size w w' := by
  by_cases he : k = k'
  · subst he
    have HF : Hid (cmpV ⟨k, n, s⟩ ⟨k, n', s'⟩ = cmpI n n') := by
      show _ = _
      unfold cmpV
      rw [if_pos rfl]
      exact ordV_num (a := ⟨k, n, s⟩) (b := ⟨k, n', s'⟩) rfl (right_num hr hk) (right_num hr' hk)
    have HN := hide (V2.new w k n s k n' s')
    clear hk hk' hr hr' h0 h1 h0' h1'
    obtain ⟨x, hx⟩ : ∃ x, x = cmpI n n' := ⟨_, rfl⟩
    rw [HF.out, ← hx]
    have HX := hide hx
    clear hx HF
    go_enter Tryd.func53, Tryd.ntmps53
    go_wp2_with fail
    obtain ⟨w0, hw0⟩ : ∃ x, x = (w.alloc (.cells #[.int .u8 (k.toNat : Int), .int .i64 n, .string s] 24)).alloc (.cells #[.int .u8 (k.toNat : Int), .int .i64 n', .string s'] 24) := ⟨_, rfl⟩
    rw [← hw0] at HN ⊢
    clear hw0
    obtain ⟨a0, a1, a2⟩ := HN.out.1.c3
    obtain ⟨b0, b1, b2⟩ := HN.out.2.1.c3
    go_wp2_with fail
    with_reducible refine (ccompareI n n' _).mono ?_
    rintro e w' ⟨rfl, rfl⟩
    rw [← HX.out]
    go_wp2_with fail
    go_ret
    exact ⟨rfl, HN.out.2.2⟩
  · have hne : k.toNat ≠ k'.toNat := fun h => he (UInt8.toNat_inj.1 h)
    by_cases h2 : k.toNat = 2
    · have h3 : k'.toNat = 3 := by omega
      have e : cmpV ⟨k, n, s⟩ ⟨k', n', s'⟩ = cmpI (n * 10000) n' := by
        unfold cmpV Val.fixed
        rw [if_neg he, if_pos h2, if_neg (by simp only; omega)]
      rw [e]
      exact against_mixed k n s k' n' s' w h2 h3 h0' h1'
    · have h3 : k'.toNat = 2 := by omega
      have h4 : k.toNat = 3 := by omega
      have HF : Hid (cmpV ⟨k, n, s⟩ ⟨k', n', s'⟩ = cmpI n (n' * 10000)) := by
        show _ = _
        unfold cmpV Val.fixed
        rw [if_neg he, if_neg h2, if_pos h3]
      have HN := hide (V2.new w k n s k' n' s')
      have t1 : ((k.toNat : Int) == (k'.toNat : Int)) = false := by simp; omega
      have t2 : ((k.toNat : Int) == 3) = true := by simp; omega
      have HA := hide (against_mixed k' n' s' k n s · h3 h4 h0 h1)
      obtain ⟨x, hx⟩ : ∃ x, x = cmpI (n' * 10000) n := ⟨_, rfl⟩
      have hx3 : x = -1 ∨ x = 0 ∨ x = 1 := by rw [hx]; unfold cmpI; (repeat' split) <;> omega
      have e : -x = cmpI n (n' * 10000) := by rw [hx]; exact cmpI_neg _ _
      rw [HF.out, ← e]
      have HX := hide hx
      have hxw : IntKind.i64.wrap (-x) = -x := by rw [IntKind.wrap_i64]; omega
      clear hx HF e hne h2 h3 h4 he hk hk' hr hr' h0 h1 h0' h1' hx3
      go_enter Tryd.func53, Tryd.ntmps53
      go_wp2_with fail
      obtain ⟨w0, hw0⟩ : ∃ x, x = (w.alloc (.cells #[.int .u8 (k.toNat : Int), .int .i64 n, .string s] 24)).alloc (.cells #[.int .u8 (k'.toNat : Int), .int .i64 n', .string s'] 24) := ⟨_, rfl⟩
      rw [← hw0] at HN ⊢
      clear hw0
      obtain ⟨a0, a1, a2⟩ := HN.out.1.c3
      obtain ⟨b0, b1, b2⟩ := HN.out.2.1.c3
      go_wp2_with fail
      with_reducible refine (HA.out _).mono ?_
      rintro e w1 ⟨rfl, hb1⟩
      rw [← HX.out]
      have HB := hide (HN.out.2.2.trans (hb1.mono HN.out.2.2.size))
      clear hb1 a0 a1 a2 b0 b1 b2
      go_wp2_with fail
      go_ret
      exact ⟨rfl, HB.out⟩
end Go.Proofs.YticljmgcgjibpaaDoor

/-
  The walk of value.Compare. Conditions: numbers within 64 bits. (printed by cmpgen.py)
-/
namespace Go.Proofs.YticljmgcgjibpaaDoor
open Go.RowKit

namespace Val
def compare (op : Nat) (a b : Cell.Val) : Nat × Nat :=
  if op < 7 ∨ 12 < op ∨ bothRight a b = false then (0, 2)
  else if a.k.toNat = 0 ∨ b.k.toNat = 0 then (2, 0)
  else if (numB a.k && numB b.k) = false ∧ a.k ≠ b.k then (0, 270)
  else (if holds (UInt8.ofNat op) (cmpV a b) = true then 1 else 0, 0)
theorem compare_op {op : Nat} (a b : Cell.Val) (h : op < 7 ∨ 12 < op) : compare op a b = (0, 2) := by
  unfold compare
  rw [if_pos (by omega)]
theorem compare_right {op : Nat} {a b : Cell.Val} (h : bothRight a b = false) : compare op a b = (0, 2) := by
  unfold compare
  rw [if_pos (.inr (.inr h))]
theorem compare_null {op : Nat} {a b : Cell.Val} (h1 : 7 ≤ op) (h2 : op ≤ 12) (h : bothRight a b = true) (h0 : a.k.toNat = 0 ∨ b.k.toNat = 0) : compare op a b = (2, 0) := by
  unfold compare
  rw [if_neg (by rw [h]; simp; omega), if_pos h0]
theorem compare_kind {op : Nat} {a b : Cell.Val} (h1 : 7 ≤ op) (h2 : op ≤ 12) (h : bothRight a b = true) (h0 : ¬ (a.k.toNat = 0 ∨ b.k.toNat = 0)) (h3 : (numB a.k && numB b.k) = false) (h4 : a.k ≠ b.k) : compare op a b = (0, 270) := by
  unfold compare
  rw [if_neg (by rw [h]; simp; omega), if_neg h0, if_pos ⟨h3, h4⟩]
theorem compare_go {op : Nat} {a b : Cell.Val} (h1 : 7 ≤ op) (h2 : op ≤ 12) (h : bothRight a b = true) (h0 : ¬ (a.k.toNat = 0 ∨ b.k.toNat = 0)) (h3 : (numB a.k && numB b.k) = true ∨ a.k = b.k) : compare op a b = (if holds (UInt8.ofNat op) (cmpV a b) = true then 1 else 0, 0) := by
  unfold compare
  rw [if_neg (by rw [h]; simp; omega), if_neg h0, if_neg (by rintro ⟨h5, h6⟩; rcases h3 with h3 | h3; (rw [h3] at h5; cases h5); exact h6 h3)]
end Val
theorem numB_is {k : UInt8} (h : Val.numB k = true) : k.toNat = 2 ∨ k.toNat = 3 := by
  unfold Val.numB at h
  simpa using h
set_option maxRecDepth 20000 in
set_option maxHeartbeats 6400000 in
theorem vCompare_any (op : Nat) (k : UInt8) (n : Int) (s : ByteArray) (k' : UInt8) (n' : Int) (s' : ByteArray) (w : World) (h0 : -9223372036854775808 ≤ n) (h1 : n ≤ 9223372036854775807) (h0' : -9223372036854775808 ≤ n') (h1' : n' ≤ 9223372036854775807) :
    Calls Tryd.prog 34 #[.int .u8 (op : Int), .agg #[.int .u8 (k.toNat : Int), .int .i64 n, .string s], .agg #[.int .u8 (k'.toNat : Int), .int .i64 n', .string s']] w fun e w' => e = .returned (truV (Val.compare op ⟨k, n, s⟩ ⟨k', n', s'⟩)) ∧ Below w.heap.size w w' := by
  have HN := hide (V2.new w k n s k' n' s')
  obtain ⟨p, hp⟩ : ∃ p, p = Val.compare op ⟨k, n, s⟩ ⟨k', n', s'⟩ := ⟨_, rfl⟩
  rw [← hp]
  have HP := hide hp
  clear hp
  obtain ⟨ra, hra⟩ : ∃ r, r = Cell.rightB ⟨k, n, s⟩ := ⟨_, rfl⟩
  obtain ⟨rb, hrb⟩ : ∃ r, r = Cell.rightB ⟨k', n', s'⟩ := ⟨_, rfl⟩
  have HRA := hide hra
  have HRB := hide hrb
  clear hra hrb
  by_cases hop : op < 7 ∨ 12 < op
  · have HF := hide (HP.out.trans (Val.compare_op _ _ hop))
    by_cases h7 : op < 7
    · have d1 : decide ((op : Int) < 7) = true := by simp; omega
      clear hop h7
      go_enter Tryd.func34, Tryd.ntmps34
      go_wp2_with fail
      go_ret2
      exact ⟨by rw [HF.out]; rfl, HN.out.2.2⟩
    · have d1 : decide ((op : Int) < 7) = false := by simp; omega
      have d2 : decide ((12 : Int) < (op : Int)) = true := by simp; omega
      clear hop h7
      go_enter Tryd.func34, Tryd.ntmps34
      go_wp2_with fail
      go_ret2
      exact ⟨by rw [HF.out]; rfl, HN.out.2.2⟩
  have g1 : 7 ≤ op := by omega
  have g2 : op ≤ 12 := by omega
  have d1 : decide ((op : Int) < 7) = false := by simp; omega
  have d2 : decide ((12 : Int) < (op : Int)) = false := by simp; omega
  clear hop
  go_enter Tryd.func34, Tryd.ntmps34
  go_wp2_with fail
  obtain ⟨w0, hw0⟩ : ∃ x, x = (w.alloc (.cells #[.int .u8 (k.toNat : Int), .int .i64 n, .string s] 24)).alloc (.cells #[.int .u8 (k'.toNat : Int), .int .i64 n', .string s'] 24) := ⟨_, rfl⟩
  rw [← hw0] at HN ⊢
  clear hw0
  with_reducible refine (right_any k n s w0).mono ?_
  rintro e w1 ⟨rfl, hb1⟩
  replace HN := hide (HN.out.below hb1)
  clear hb1
  rw [← HRA.out]
  cases ra with
  | false =>
    have HF : Hid (p = (0, 2)) := HP.out.trans (Val.compare_right (by unfold Val.bothRight; rw [← HRA.out]; rfl))
    go_wp2_with fail
    go_ret2
    exact ⟨by rw [HF.out]; rfl, HN.out.2.2⟩
  | true =>
    obtain ⟨b0, b1, b2⟩ := HN.out.2.1.c3
    go_wp2_with fail
    clear b0 b1 b2
    with_reducible refine (right_any k' n' s' w1).mono ?_
    rintro e w2 ⟨rfl, hb2⟩
    replace HN := hide (HN.out.below hb2)
    clear hb2
    rw [← HRB.out]
    cases rb with
    | false =>
      have HF : Hid (p = (0, 2)) := HP.out.trans (Val.compare_right (by unfold Val.bothRight; rw [← HRA.out, ← HRB.out]; rfl))
      go_wp2_with fail
      go_ret2
      exact ⟨by rw [HF.out]; rfl, HN.out.2.2⟩
    | true =>
      have HBR : Hid (Val.bothRight ⟨k, n, s⟩ ⟨k', n', s'⟩ = true) := by show _ = _; unfold Val.bothRight; rw [← HRA.out, ← HRB.out]; rfl
      obtain ⟨a0, a1, a2⟩ := HN.out.1.c3
      obtain ⟨b0, b1, b2⟩ := HN.out.2.1.c3
      by_cases hz : k.toNat = 0
      · have HF := hide (HP.out.trans (Val.compare_null g1 g2 HBR.out (.inl hz)))
        have t1 : ((k.toNat : Int) == 0) = true := by simp; omega
        clear hz
        go_wp2_with fail
        go_ret2
        exact ⟨by rw [HF.out]; rfl, HN.out.2.2⟩
      · have t1 : ((k.toNat : Int) == 0) = false := by simp; omega
        by_cases hz' : k'.toNat = 0
        · have HF := hide (HP.out.trans (Val.compare_null g1 g2 HBR.out (.inr hz')))
          have t2 : ((k'.toNat : Int) == 0) = true := by simp; omega
          clear hz hz'
          go_wp2_with fail
          go_ret2
          exact ⟨by rw [HF.out]; rfl, HN.out.2.2⟩
        · have t2 : ((k'.toNat : Int) == 0) = false := by simp; omega
          have HZ := hide (show ¬ ((⟨k, n, s⟩ : Cell.Val).k.toNat = 0 ∨ (⟨k', n', s'⟩ : Cell.Val).k.toNat = 0) from fun h => by rcases h with h | h; exact hz h; exact hz' h)
          clear hz hz'
          go_wp2_with fail
          with_reducible refine (number_any k _ rfl w2).mono ?_
          rintro e wq ⟨rfl, rfl⟩
          obtain ⟨na, hna⟩ : ∃ r, r = Val.numB k := ⟨_, rfl⟩
          obtain ⟨nb, hnb⟩ : ∃ r, r = Val.numB k' := ⟨_, rfl⟩
          have HNA := hide hna
          have HNB := hide hnb
          rw [← HNA.out]
          clear hna hnb
          cases na with
          | true =>
            go_wp2_with fail
            with_reducible refine (number_any k' _ rfl w2).mono ?_
            rintro e wq ⟨rfl, rfl⟩
            rw [← HNB.out]
            cases nb with
            | true =>
              go_wp2_with fail
              with_reducible refine (against_any k n s k' n' s' w2 (numB_is HNA.out.symm) (numB_is HNB.out.symm) HRA.out.symm HRB.out.symm h0 h1 h0' h1').mono ?_
              rintro e w3 ⟨rfl, hb3⟩
              replace HN := hide (HN.out.below hb3)
              clear hb3 a0 a1 a2 b0 b1 b2
              have HF := hide (HP.out.trans (Val.compare_go g1 g2 HBR.out HZ.out (.inl (by rw [← HNA.out, ← HNB.out]; rfl))))
              obtain ⟨c, hc⟩ : ∃ c, c = cmpV ⟨k, n, s⟩ ⟨k', n', s'⟩ := ⟨_, rfl⟩
              rw [← hc] at HF ⊢
              clear hc HP t1 t2 h0 h1 h0' h1'
              obtain rfl | rfl | rfl | rfl | rfl | rfl : op = 7 ∨ op = 8 ∨ op = 9 ∨ op = 10 ∨ op = 11 ∨ op = 12 := by omega
              · obtain ⟨r, hr⟩ : ∃ r, r = (c == 0) := ⟨_, rfl⟩
                have tr : (c == 0) = r := hr.symm
                have HG : Hid (p = (if r = true then 1 else 0, 0)) := by
                  show _ = _
                  rw [HF.out, hr]
                  unfold Val.holds
                  simp
                clear hr d1 d2 g1 g2
                cases r with
                | false =>
                  go_wp2_with fail
                  go_ret2
                  exact ⟨by rw [HG.out]; rfl, HN.out.2.2⟩
                | true =>
                  go_wp2_with fail
                  go_ret2
                  exact ⟨by rw [HG.out]; rfl, HN.out.2.2⟩
              · obtain ⟨r, hr⟩ : ∃ r, r = (c != 0) := ⟨_, rfl⟩
                have tr : (c != 0) = r := hr.symm
                have HG : Hid (p = (if r = true then 1 else 0, 0)) := by
                  show _ = _
                  rw [HF.out, hr]
                  unfold Val.holds
                  simp
                clear hr d1 d2 g1 g2
                cases r with
                | false =>
                  go_wp2_with fail
                  go_ret2
                  exact ⟨by rw [HG.out]; rfl, HN.out.2.2⟩
                | true =>
                  go_wp2_with fail
                  go_ret2
                  exact ⟨by rw [HG.out]; rfl, HN.out.2.2⟩
              · obtain ⟨r, hr⟩ : ∃ r, r = decide (c < 0) := ⟨_, rfl⟩
                have tr : decide (c < 0) = r := hr.symm
                have HG : Hid (p = (if r = true then 1 else 0, 0)) := by
                  show _ = _
                  rw [HF.out, hr]
                  unfold Val.holds
                  simp
                clear hr d1 d2 g1 g2
                cases r with
                | false =>
                  go_wp2_with fail
                  go_ret2
                  exact ⟨by rw [HG.out]; rfl, HN.out.2.2⟩
                | true =>
                  go_wp2_with fail
                  go_ret2
                  exact ⟨by rw [HG.out]; rfl, HN.out.2.2⟩
              · obtain ⟨r, hr⟩ : ∃ r, r = decide (c ≤ 0) := ⟨_, rfl⟩
                have tr : decide (c ≤ 0) = r := hr.symm
                have HG : Hid (p = (if r = true then 1 else 0, 0)) := by
                  show _ = _
                  rw [HF.out, hr]
                  unfold Val.holds
                  simp
                clear hr d1 d2 g1 g2
                cases r with
                | false =>
                  go_wp2_with fail
                  go_ret2
                  exact ⟨by rw [HG.out]; rfl, HN.out.2.2⟩
                | true =>
                  go_wp2_with fail
                  go_ret2
                  exact ⟨by rw [HG.out]; rfl, HN.out.2.2⟩
              · obtain ⟨r, hr⟩ : ∃ r, r = decide (0 < c) := ⟨_, rfl⟩
                have tr : decide (0 < c) = r := hr.symm
                have HG : Hid (p = (if r = true then 1 else 0, 0)) := by
                  show _ = _
                  rw [HF.out, hr]
                  unfold Val.holds
                  simp
                clear hr d1 d2 g1 g2
                cases r with
                | false =>
                  go_wp2_with fail
                  go_ret2
                  exact ⟨by rw [HG.out]; rfl, HN.out.2.2⟩
                | true =>
                  go_wp2_with fail
                  go_ret2
                  exact ⟨by rw [HG.out]; rfl, HN.out.2.2⟩
              · obtain ⟨r, hr⟩ : ∃ r, r = decide (0 ≤ c) := ⟨_, rfl⟩
                have tr : decide (0 ≤ c) = r := hr.symm
                have HG : Hid (p = (if r = true then 1 else 0, 0)) := by
                  show _ = _
                  rw [HF.out, hr]
                  unfold Val.holds
                  simp
                clear hr d1 d2 g1 g2
                cases r with
                | false =>
                  go_wp2_with fail
                  go_ret2
                  exact ⟨by rw [HG.out]; rfl, HN.out.2.2⟩
                | true =>
                  go_wp2_with fail
                  go_ret2
                  exact ⟨by rw [HG.out]; rfl, HN.out.2.2⟩
            | false =>
              by_cases hkk : k = k'
              · have t3 : ((k.toNat : Int) == (k'.toNat : Int)) = true := by rw [hkk]; simp
                have HF := hide (HP.out.trans (Val.compare_go g1 g2 HBR.out HZ.out (.inr hkk)))
                have HO := hide (show cmpV ⟨k, n, s⟩ ⟨k', n', s'⟩ = ordV ⟨k, n, s⟩ ⟨k', n', s'⟩ from if_pos hkk)
                clear hkk
                go_wp2_with fail
                with_reducible refine (order_any k n s k' n' s' w2).mono ?_
                rintro e w3 ⟨rfl, hb3⟩
                replace HN := hide (HN.out.below hb3)
                clear hb3 a0 a1 a2 b0 b1 b2
                rw [HO.out] at HF
                obtain ⟨c, hc⟩ : ∃ c, c = ordV ⟨k, n, s⟩ ⟨k', n', s'⟩ := ⟨_, rfl⟩
                rw [← hc] at HF ⊢
                clear hc HP t1 t2 t3 h0 h1 h0' h1' HO
                obtain rfl | rfl | rfl | rfl | rfl | rfl : op = 7 ∨ op = 8 ∨ op = 9 ∨ op = 10 ∨ op = 11 ∨ op = 12 := by omega
                · obtain ⟨r, hr⟩ : ∃ r, r = (c == 0) := ⟨_, rfl⟩
                  have tr : (c == 0) = r := hr.symm
                  have HG : Hid (p = (if r = true then 1 else 0, 0)) := by
                    show _ = _
                    rw [HF.out, hr]
                    unfold Val.holds
                    simp
                  clear hr d1 d2 g1 g2
                  cases r with
                  | false =>
                    go_wp2_with fail
                    go_ret2
                    exact ⟨by rw [HG.out]; rfl, HN.out.2.2⟩
                  | true =>
                    go_wp2_with fail
                    go_ret2
                    exact ⟨by rw [HG.out]; rfl, HN.out.2.2⟩
                · obtain ⟨r, hr⟩ : ∃ r, r = (c != 0) := ⟨_, rfl⟩
                  have tr : (c != 0) = r := hr.symm
                  have HG : Hid (p = (if r = true then 1 else 0, 0)) := by
                    show _ = _
                    rw [HF.out, hr]
                    unfold Val.holds
                    simp
                  clear hr d1 d2 g1 g2
                  cases r with
                  | false =>
                    go_wp2_with fail
                    go_ret2
                    exact ⟨by rw [HG.out]; rfl, HN.out.2.2⟩
                  | true =>
                    go_wp2_with fail
                    go_ret2
                    exact ⟨by rw [HG.out]; rfl, HN.out.2.2⟩
                · obtain ⟨r, hr⟩ : ∃ r, r = decide (c < 0) := ⟨_, rfl⟩
                  have tr : decide (c < 0) = r := hr.symm
                  have HG : Hid (p = (if r = true then 1 else 0, 0)) := by
                    show _ = _
                    rw [HF.out, hr]
                    unfold Val.holds
                    simp
                  clear hr d1 d2 g1 g2
                  cases r with
                  | false =>
                    go_wp2_with fail
                    go_ret2
                    exact ⟨by rw [HG.out]; rfl, HN.out.2.2⟩
                  | true =>
                    go_wp2_with fail
                    go_ret2
                    exact ⟨by rw [HG.out]; rfl, HN.out.2.2⟩
                · obtain ⟨r, hr⟩ : ∃ r, r = decide (c ≤ 0) := ⟨_, rfl⟩
                  have tr : decide (c ≤ 0) = r := hr.symm
                  have HG : Hid (p = (if r = true then 1 else 0, 0)) := by
                    show _ = _
                    rw [HF.out, hr]
                    unfold Val.holds
                    simp
                  clear hr d1 d2 g1 g2
                  cases r with
                  | false =>
                    go_wp2_with fail
                    go_ret2
                    exact ⟨by rw [HG.out]; rfl, HN.out.2.2⟩
                  | true =>
                    go_wp2_with fail
                    go_ret2
                    exact ⟨by rw [HG.out]; rfl, HN.out.2.2⟩
                · obtain ⟨r, hr⟩ : ∃ r, r = decide (0 < c) := ⟨_, rfl⟩
                  have tr : decide (0 < c) = r := hr.symm
                  have HG : Hid (p = (if r = true then 1 else 0, 0)) := by
                    show _ = _
                    rw [HF.out, hr]
                    unfold Val.holds
                    simp
                  clear hr d1 d2 g1 g2
                  cases r with
                  | false =>
                    go_wp2_with fail
                    go_ret2
                    exact ⟨by rw [HG.out]; rfl, HN.out.2.2⟩
                  | true =>
                    go_wp2_with fail
                    go_ret2
                    exact ⟨by rw [HG.out]; rfl, HN.out.2.2⟩
                · obtain ⟨r, hr⟩ : ∃ r, r = decide (0 ≤ c) := ⟨_, rfl⟩
                  have tr : decide (0 ≤ c) = r := hr.symm
                  have HG : Hid (p = (if r = true then 1 else 0, 0)) := by
                    show _ = _
                    rw [HF.out, hr]
                    unfold Val.holds
                    simp
                  clear hr d1 d2 g1 g2
                  cases r with
                  | false =>
                    go_wp2_with fail
                    go_ret2
                    exact ⟨by rw [HG.out]; rfl, HN.out.2.2⟩
                  | true =>
                    go_wp2_with fail
                    go_ret2
                    exact ⟨by rw [HG.out]; rfl, HN.out.2.2⟩
              · have t3 : ((k.toNat : Int) == (k'.toNat : Int)) = false := by
                  simp
                  intro h
                  exact hkk (UInt8.toNat_inj.1 (by omega))
                have HF := hide (HP.out.trans (Val.compare_kind g1 g2 HBR.out HZ.out (by rw [← HNA.out, ← HNB.out]; rfl) hkk))
                clear hkk
                go_wp2_with fail
                go_ret2
                exact ⟨by rw [HF.out]; rfl, HN.out.2.2⟩
          | false =>
            by_cases hkk : k = k'
            · have t3 : ((k.toNat : Int) == (k'.toNat : Int)) = true := by rw [hkk]; simp
              have HF := hide (HP.out.trans (Val.compare_go g1 g2 HBR.out HZ.out (.inr hkk)))
              have HO := hide (show cmpV ⟨k, n, s⟩ ⟨k', n', s'⟩ = ordV ⟨k, n, s⟩ ⟨k', n', s'⟩ from if_pos hkk)
              clear hkk
              go_wp2_with fail
              with_reducible refine (order_any k n s k' n' s' w2).mono ?_
              rintro e w3 ⟨rfl, hb3⟩
              replace HN := hide (HN.out.below hb3)
              clear hb3 a0 a1 a2 b0 b1 b2
              rw [HO.out] at HF
              obtain ⟨c, hc⟩ : ∃ c, c = ordV ⟨k, n, s⟩ ⟨k', n', s'⟩ := ⟨_, rfl⟩
              rw [← hc] at HF ⊢
              clear hc HP t1 t2 t3 h0 h1 h0' h1' HO
              obtain rfl | rfl | rfl | rfl | rfl | rfl : op = 7 ∨ op = 8 ∨ op = 9 ∨ op = 10 ∨ op = 11 ∨ op = 12 := by omega
              · obtain ⟨r, hr⟩ : ∃ r, r = (c == 0) := ⟨_, rfl⟩
                have tr : (c == 0) = r := hr.symm
                have HG : Hid (p = (if r = true then 1 else 0, 0)) := by
                  show _ = _
                  rw [HF.out, hr]
                  unfold Val.holds
                  simp
                clear hr d1 d2 g1 g2
                cases r with
                | false =>
                  go_wp2_with fail
                  go_ret2
                  exact ⟨by rw [HG.out]; rfl, HN.out.2.2⟩
                | true =>
                  go_wp2_with fail
                  go_ret2
                  exact ⟨by rw [HG.out]; rfl, HN.out.2.2⟩
              · obtain ⟨r, hr⟩ : ∃ r, r = (c != 0) := ⟨_, rfl⟩
                have tr : (c != 0) = r := hr.symm
                have HG : Hid (p = (if r = true then 1 else 0, 0)) := by
                  show _ = _
                  rw [HF.out, hr]
                  unfold Val.holds
                  simp
                clear hr d1 d2 g1 g2
                cases r with
                | false =>
                  go_wp2_with fail
                  go_ret2
                  exact ⟨by rw [HG.out]; rfl, HN.out.2.2⟩
                | true =>
                  go_wp2_with fail
                  go_ret2
                  exact ⟨by rw [HG.out]; rfl, HN.out.2.2⟩
              · obtain ⟨r, hr⟩ : ∃ r, r = decide (c < 0) := ⟨_, rfl⟩
                have tr : decide (c < 0) = r := hr.symm
                have HG : Hid (p = (if r = true then 1 else 0, 0)) := by
                  show _ = _
                  rw [HF.out, hr]
                  unfold Val.holds
                  simp
                clear hr d1 d2 g1 g2
                cases r with
                | false =>
                  go_wp2_with fail
                  go_ret2
                  exact ⟨by rw [HG.out]; rfl, HN.out.2.2⟩
                | true =>
                  go_wp2_with fail
                  go_ret2
                  exact ⟨by rw [HG.out]; rfl, HN.out.2.2⟩
              · obtain ⟨r, hr⟩ : ∃ r, r = decide (c ≤ 0) := ⟨_, rfl⟩
                have tr : decide (c ≤ 0) = r := hr.symm
                have HG : Hid (p = (if r = true then 1 else 0, 0)) := by
                  show _ = _
                  rw [HF.out, hr]
                  unfold Val.holds
                  simp
                clear hr d1 d2 g1 g2
                cases r with
                | false =>
                  go_wp2_with fail
                  go_ret2
                  exact ⟨by rw [HG.out]; rfl, HN.out.2.2⟩
                | true =>
                  go_wp2_with fail
                  go_ret2
                  exact ⟨by rw [HG.out]; rfl, HN.out.2.2⟩
              · obtain ⟨r, hr⟩ : ∃ r, r = decide (0 < c) := ⟨_, rfl⟩
                have tr : decide (0 < c) = r := hr.symm
                have HG : Hid (p = (if r = true then 1 else 0, 0)) := by
                  show _ = _
                  rw [HF.out, hr]
                  unfold Val.holds
                  simp
                clear hr d1 d2 g1 g2
                cases r with
                | false =>
                  go_wp2_with fail
                  go_ret2
                  exact ⟨by rw [HG.out]; rfl, HN.out.2.2⟩
                | true =>
                  go_wp2_with fail
                  go_ret2
                  exact ⟨by rw [HG.out]; rfl, HN.out.2.2⟩
              · obtain ⟨r, hr⟩ : ∃ r, r = decide (0 ≤ c) := ⟨_, rfl⟩
                have tr : decide (0 ≤ c) = r := hr.symm
                have HG : Hid (p = (if r = true then 1 else 0, 0)) := by
                  show _ = _
                  rw [HF.out, hr]
                  unfold Val.holds
                  simp
                clear hr d1 d2 g1 g2
                cases r with
                | false =>
                  go_wp2_with fail
                  go_ret2
                  exact ⟨by rw [HG.out]; rfl, HN.out.2.2⟩
                | true =>
                  go_wp2_with fail
                  go_ret2
                  exact ⟨by rw [HG.out]; rfl, HN.out.2.2⟩
            · have t3 : ((k.toNat : Int) == (k'.toNat : Int)) = false := by
                simp
                intro h
                exact hkk (UInt8.toNat_inj.1 (by omega))
              have HF := hide (HP.out.trans (Val.compare_kind g1 g2 HBR.out HZ.out (by rw [← HNA.out]; rfl) hkk))
              clear hkk
              go_wp2_with fail
              go_ret2
              exact ⟨by rw [HF.out]; rfl, HN.out.2.2⟩
end Go.Proofs.YticljmgcgjibpaaDoor

/-
  The walk of chanceryref17.Order. Conditions: numbers within 64 bits. (printed by cmpgen.py)
-/
namespace Go.Proofs.YticljmgcgjibpaaDoor
open Go.RowKit

theorem less_cmp : ∀ l m, Op.bytesLess l m = decide (cmpB l m = -1) := by
  intro l
  induction l with
  | nil => intro m; cases m <;> simp [Op.bytesLess, cmpB]
  | cons c l ih =>
    intro m
    cases m with
    | nil => simp [Op.bytesLess, cmpB]
    | cons d m =>
      simp only [Op.bytesLess, cmpB, ih]
      by_cases h : c < d
      · simp [h]
      · by_cases h2 : d < c
        · have : ¬ c = d := fun e => by rw [e] at h2; exact absurd h2 (UInt8.lt_irrefl _)
          simp [h, h2, this]
        · have : c = d := UInt8.le_antisymm (UInt8.not_lt.1 h2) (UInt8.not_lt.1 h)
          subst this
          simp [h]
theorem str_list (s : ByteArray) : s.toList = s.data.toList := ByteArray.toList_eq s
end Go.Proofs.YticljmgcgjibpaaDoor

/-
  The walk of chanceryref17.Compare. Conditions: numbers within 64 bits. (printed by cmpgen.py)
-/
namespace Go.Proofs.YticljmgcgjibpaaDoor
open Go.RowKit

section
variable {w wr w' : World} {k : UInt8} {n : Int} {s : ByteArray} {k' : UInt8} {n' : Int} {s' : ByteArray} {g : Nat} {cs : Array Value}
theorem V2.drew (h : V2 w wr k n s k' n' s') : V2 w { wr with drawn := wr.drawn + 1 } k n s k' n' s' := ⟨h.1, h.2.1, h.2.2.drew⟩
theorem V2.sixFar (h : V2 w wr k n s k' n' s') (hg : w.heap.size + 1 < g) (u0 u1 u2 u3 u4 u5 : Value) : V2 w ((((((wr.setCell ⟨g, 0, none⟩ (u0)).setCell ⟨g, 1, none⟩ (u1)).setCell ⟨g, 2, none⟩ (u2)).setCell ⟨g, 3, none⟩ (u3)).setCell ⟨g, 4, none⟩ (u4)).setCell ⟨g, 5, none⟩ (u5)) k n s k' n' s' :=
  ⟨h.1.sixFar (by omega) _ _ _ _ _ _, h.2.1.sixFar (by omega) _ _ _ _ _ _, below_six h.2.2 (by omega) _ _ _ _ _ _⟩
theorem V2.put1 (h : V2 w wr k n s k' n' s') (hg : w.heap.size + 1 < g) (i : Nat) (u : Value) : V2 w (wr.setCell ⟨g, i, none⟩ u) k n s k' n' s' :=
  ⟨h.1.far (show w.heap.size ≠ g by omega) _, h.2.1.far (show w.heap.size + 1 ≠ g by omega) _, h.2.2.setCell (p := ⟨g, i, none⟩) (show w.heap.size ≤ g by omega) _⟩
end
theorem signOf_cmp {sg : Bool} {sv : Nat} {x y : Int} (h : Val.signed sg sv = x - y) : signOf sg sv = cmpI x y := by
  unfold signOf cmpI
  unfold Val.signed at h
  cases sg with
  | false =>
    simp at h
    by_cases h0 : sv = 0
    · rw [if_pos h0, if_neg (by omega), if_neg (by omega)]
    · rw [if_neg h0, if_neg (by decide), if_neg (by omega), if_pos (by omega)]
  | true =>
    simp at h
    by_cases h0 : sv = 0
    · rw [if_pos h0, if_neg (by omega), if_neg (by omega)]
    · rw [if_neg h0, if_pos rfl, if_pos (by omega)]
end Go.Proofs.YticljmgcgjibpaaDoor
