/-
  The walk of value.against. Conditions: right numbers within 64 bits.
-/
import Derived.Test.YticljmgcgjibpaaGreatDoorLogB
import Derived.Test.YticljmgcgjibpaaGreatDoorValC
import Derived.Test.YticljmgcgjibpaaGreatDoorOrdV
import Derived.WalkLawsBesides
namespace Go.Proofs.YticljmgcgjibpaaGreatDoor
open Go.RowKit

def or2 (a b : Int) : Int := if a ≠ 0 then a else b
def OrTo2 (a b : Int) (k : Nat) : Prop := k = 0 ∨ (k = 1 ∧ a = 0) ∨ (k = 2 ∧ a = 0 ∧ b = 0)
set_option maxHeartbeats 400000 in
theorem or2_any (g : Nat) (a b : Int) (w : World) (h0 : w.cell? ⟨g, 0, none⟩ = some (.int .i64 a)) (h1 : w.cell? ⟨g, 1, none⟩ = some (.int .i64 b)) :
    Calls Tryz.prog 92 #[.slice (some ⟨g, 0, none⟩) 2 2] w fun e w' => e = .returned (.int .i64 (or2 a b)) ∧ w = w' := by
  go_enter Tryz.func92, Tryz.ntmps92
  go_wp2_with fail
  go_loop [8] (fun i => ∃ k : Nat, i = .int .i64 (k : Nat) ∧ OrTo2 a b k) (fun i => 2 - (intOf i).toNat)
  case atStart => exact ⟨0, rfl, Or.inl rfl⟩
  case round =>
    obtain ⟨k, rfl, hr⟩ := hrel
    rcases hr with rfl | ⟨rfl, rfl⟩ | ⟨rfl, rfl, rfl⟩
    · by_cases ha : a = 0
      · subst ha
        go_wp2_with fail
        exact ⟨⟨1, rfl, Or.inr (Or.inl ⟨rfl, rfl⟩)⟩, by simp [intOf]⟩
      · have HF : Hid (or2 a b = a) := by show _ = _; unfold or2; rw [if_pos ha]
        have t : (a != 0) = true := by simpa using ha
        go_wp2_with fail
        go_ret
        exact ⟨by rw [HF.out]; rfl, rfl⟩
    · by_cases hb : b = 0
      · subst hb
        go_wp2_with fail
        exact ⟨⟨2, rfl, Or.inr (Or.inr ⟨rfl, rfl, rfl⟩)⟩, by simp [intOf]⟩
      · have HF : Hid (or2 0 b = b) := by show _ = _; unfold or2; rw [if_neg (by omega)]
        have t : (b != 0) = true := by simpa using hb
        go_wp2_with fail
        go_ret
        exact ⟨by rw [HF.out]; rfl, rfl⟩
    · have HF : Hid (or2 0 0 = 0) := rfl
      go_wp2_with fail
      go_ret
      exact ⟨by rw [HF.out]; rfl, rfl⟩
/-- Which of two stands ahead: numbers by what they are worth, others by their order. -/
def cmpV (a b : Cell.Val) : Int := if a.k = b.k then ordV a b else cmpI (Val.fixed a) (Val.fixed b)
theorem cmpI_neg (a b : Int) : -cmpI a b = cmpI b a := by
  unfold cmpI
  by_cases h1 : a < b
  · rw [if_pos h1, if_neg (by omega), if_pos h1]; rfl
  · rw [if_neg h1]
    by_cases h2 : b < a
    · rw [if_pos h2, if_pos h2]
    · rw [if_neg h2, if_neg h2, if_neg h1]; rfl
theorem cmp_mixed (n n' : Int) : or2 (cmpI n (n'.tdiv 10000)) (cmpI 0 (n'.tmod 10000)) = cmpI (n * 10000) n' := by
  have h := Int.mul_tdiv_add_tmod n' 10000
  have hb : -10000 < n'.tmod 10000 ∧ n'.tmod 10000 < 10000 := by
    have h1 := Int.tmod_lt_of_pos n' (show (0 : Int) < 10000 by omega)
    have h2 := Int.lt_tmod_of_pos n' (show (0 : Int) < 10000 by omega)
    omega
  have hs : (0 ≤ n' → 0 ≤ n'.tmod 10000) ∧ (n' ≤ 0 → n'.tmod 10000 ≤ 0) := by
    refine ⟨fun h => Int.tmod_nonneg _ h, fun h => ?_⟩
    have := Int.tmod_nonneg 10000 (show 0 ≤ -n' by omega)
    rw [Int.neg_tmod] at this
    omega
  have hd : (0 ≤ n' → 0 ≤ n'.tdiv 10000) ∧ (n' ≤ 0 → n'.tdiv 10000 ≤ 0) := by
    constructor <;> intro _ <;> omega
  generalize n'.tdiv 10000 = q at *
  generalize n'.tmod 10000 = r at *
  unfold or2 cmpI
  by_cases h1 : n < q
  · rw [if_pos h1, if_pos (by omega), if_pos (by omega)]
  · rw [if_neg h1]
    by_cases h2 : q < n
    · rw [if_pos h2, if_pos (by omega), if_neg (by omega), if_pos (by omega)]
    · rw [if_neg h2, if_neg (by omega)]
      obtain rfl : n = q := by omega
      by_cases h3 : 0 < r
      · rw [if_pos h3, if_pos (by omega)]
      · rw [if_neg h3]
        by_cases h4 : r < 0
        · rw [if_pos h4, if_neg (by omega), if_pos (by omega)]
        · rw [if_neg h4, if_neg (by omega), if_neg (by omega)]
set_option maxRecDepth 20000 in
set_option maxHeartbeats 800000 in
theorem against_mixed (k : UInt8) (n : Int) (s : ByteArray) (k' : UInt8) (n' : Int) (s' : ByteArray) (w : World) (hk : k.toNat = 2) (hk' : k'.toNat = 3) (h0' : -9223372036854775808 ≤ n') (h1' : n' ≤ 9223372036854775807) :
    Calls Tryz.prog 84 #[.agg #[.int .u8 (k.toNat : Int), .int .i64 n, .string s], .agg #[.int .u8 (k'.toNat : Int), .int .i64 n', .string s']] w fun e w' => e = .returned (.int .i64 (cmpI (n * 10000) n')) ∧ Below w.heap.size w w' := by
  have HN := hide (V2.new w k n s k' n' s')
  have HM := hide (cmp_mixed n n')
  have t1 : ((k.toNat : Int) == (k'.toNat : Int)) = false := by simp; omega
  have t2 : ((k.toNat : Int) == 3) = false := by simp; omega
  clear hk hk'
  go_enter Tryz.func84, Tryz.ntmps84
  go_wp2_with fail
  obtain ⟨w0, hw0⟩ : ∃ x, x = (w.alloc (.cells #[.int .u8 (k.toNat : Int), .int .i64 n, .string s] 25)).alloc (.cells #[.int .u8 (k'.toNat : Int), .int .i64 n', .string s'] 25) := ⟨_, rfl⟩
  rw [← hw0] at HN ⊢
  clear hw0
  obtain ⟨a0, a1, a2⟩ := HN.out.1.c3
  obtain ⟨b0, b1, b2⟩ := HN.out.2.1.c3
  go_wp2_with fail
  go_quiet (fail)
  obtain ⟨x, hx⟩ : ∃ x, x = cmpI n (n'.tdiv 10000) := ⟨_, rfl⟩
  obtain ⟨y, hy⟩ : ∃ x, x = cmpI 0 (n'.tmod 10000) := ⟨_, rfl⟩
  have HX := hide hx
  have HY := hide hy
  rw [← hx, ← hy] at HM
  clear hx hy
  go_wp2_with fail
  with_reducible refine (ccompareI n (n'.tdiv 10000) _).mono ?_
  rintro e w' ⟨rfl, rfl⟩
  rw [← HX.out]
  go_wp2_with fail
  with_reducible refine (ccompareI 0 (n'.tmod 10000) _).mono ?_
  rintro e w' ⟨rfl, rfl⟩
  rw [← HY.out]
  clear a0 a1 a2 b0 b1 b2
  have hz0 := HN.out.2.2.size
  go_wp2_with fail
  have HK := hide (Blk.new (w0.drewN nq) 3 #[.int .i64 x, .int .i64 y])
  refine (or2_any w0.heap.size x y _ (HK.out.cell 0) (HK.out.cell 1)).mono ?_
  rintro e w2 ⟨rfl, rfl⟩
  rw [HM.out]
  go_wp2_with fail
  go_ret
  exact ⟨rfl, (below_drewN HN.out.2.2 nq).alloc (by simpa using hz0) _⟩
theorem right_num {k : UInt8} {n : Int} {s : ByteArray} (h : Cell.rightB ⟨k, n, s⟩ = true) (hk : k.toNat = 2 ∨ k.toNat = 3) : s.data.toList = [] := by
  unfold Cell.rightB at h
  have : s.size = 0 := by rcases hk with hk | hk <;> simp only [hk] at h <;> simpa using h
  exact List.eq_nil_of_length_eq_zero (by rw [Array.length_toList]; exact this)
theorem ordV_num {a b : Cell.Val} (hk : a.k = b.k) (ha : a.s.data.toList = []) (hb : b.s.data.toList = []) : ordV a b = cmpI a.n b.n := by
  unfold ordV or3
  rw [hk, cmpI_eq, if_neg (by omega), ha, hb]
  by_cases h : cmpI a.n b.n = 0
  · rw [if_neg (by omega), h]; rfl
  · rw [if_pos h]
set_option maxRecDepth 20000 in
set_option maxHeartbeats 800000 in
theorem against_any (k : UInt8) (n : Int) (s : ByteArray) (k' : UInt8) (n' : Int) (s' : ByteArray) (w : World) (hk : k.toNat = 2 ∨ k.toNat = 3) (hk' : k'.toNat = 2 ∨ k'.toNat = 3) (hr : Cell.rightB ⟨k, n, s⟩ = true) (hr' : Cell.rightB ⟨k', n', s'⟩ = true)
    (h0 : -9223372036854775808 ≤ n) (h1 : n ≤ 9223372036854775807) (h0' : -9223372036854775808 ≤ n') (h1' : n' ≤ 9223372036854775807) :
    Calls Tryz.prog 84 #[.agg #[.int .u8 (k.toNat : Int), .int .i64 n, .string s], .agg #[.int .u8 (k'.toNat : Int), .int .i64 n', .string s']] w fun e w' => e = .returned (.int .i64 (cmpV ⟨k, n, s⟩ ⟨k', n', s'⟩)) ∧ Below w.heap.size w w' := by
  by_cases he : k = k'
  · subst he
    have HF : Hid (cmpV ⟨k, n, s⟩ ⟨k, n', s'⟩ = cmpI n n') := by
      show _ = _
      unfold cmpV
      rw [if_pos rfl]
      exact ordV_num (a := ⟨k, n, s⟩) (b := ⟨k, n', s'⟩) rfl (right_num hr hk) (right_num hr' hk)
    have HN := hide (V2.new w k n s k n' s')
    clear hk hk' hr hr' h0 h1 h0' h1'
    obtain ⟨x, hx⟩ : ∃ x, x = cmpI n n' := ⟨_, rfl⟩
    rw [HF.out, ← hx]
    have HX := hide hx
    clear hx HF
    go_enter Tryz.func84, Tryz.ntmps84
    go_wp2_with fail
    obtain ⟨w0, hw0⟩ : ∃ x, x = (w.alloc (.cells #[.int .u8 (k.toNat : Int), .int .i64 n, .string s] 25)).alloc (.cells #[.int .u8 (k.toNat : Int), .int .i64 n', .string s'] 25) := ⟨_, rfl⟩
    rw [← hw0] at HN ⊢
    clear hw0
    obtain ⟨a0, a1, a2⟩ := HN.out.1.c3
    obtain ⟨b0, b1, b2⟩ := HN.out.2.1.c3
    go_wp2_with fail
    with_reducible refine (ccompareI n n' _).mono ?_
    rintro e w' ⟨rfl, rfl⟩
    rw [← HX.out]
    go_wp2_with fail
    go_ret
    exact ⟨rfl, HN.out.2.2⟩
  · have hne : k.toNat ≠ k'.toNat := fun h => he (UInt8.toNat_inj.1 h)
    by_cases h2 : k.toNat = 2
    · have h3 : k'.toNat = 3 := by omega
      have e : cmpV ⟨k, n, s⟩ ⟨k', n', s'⟩ = cmpI (n * 10000) n' := by
        unfold cmpV Val.fixed
        rw [if_neg he, if_pos h2, if_neg (by simp only; omega)]
      rw [e]
      exact against_mixed k n s k' n' s' w h2 h3 h0' h1'
    · have h3 : k'.toNat = 2 := by omega
      have h4 : k.toNat = 3 := by omega
      have HF : Hid (cmpV ⟨k, n, s⟩ ⟨k', n', s'⟩ = cmpI n (n' * 10000)) := by
        show _ = _
        unfold cmpV Val.fixed
        rw [if_neg he, if_neg h2, if_pos h3]
      have HN := hide (V2.new w k n s k' n' s')
      have t1 : ((k.toNat : Int) == (k'.toNat : Int)) = false := by simp; omega
      have t2 : ((k.toNat : Int) == 3) = true := by simp; omega
      have HA := hide (against_mixed k' n' s' k n s · h3 h4 h0 h1)
      obtain ⟨x, hx⟩ : ∃ x, x = cmpI (n' * 10000) n := ⟨_, rfl⟩
      have hx3 : x = -1 ∨ x = 0 ∨ x = 1 := by rw [hx]; unfold cmpI; (repeat' split) <;> omega
      have e : -x = cmpI n (n' * 10000) := by rw [hx]; exact cmpI_neg _ _
      rw [HF.out, ← e]
      have HX := hide hx
      have hxw : IntKind.i64.wrap (-x) = -x := by rw [IntKind.wrap_i64]; omega
      clear hx HF e hne h2 h3 h4 he hk hk' hr hr' h0 h1 h0' h1' hx3
      go_enter Tryz.func84, Tryz.ntmps84
      go_wp2_with fail
      obtain ⟨w0, hw0⟩ : ∃ x, x = (w.alloc (.cells #[.int .u8 (k.toNat : Int), .int .i64 n, .string s] 25)).alloc (.cells #[.int .u8 (k'.toNat : Int), .int .i64 n', .string s'] 25) := ⟨_, rfl⟩
      rw [← hw0] at HN ⊢
      clear hw0
      obtain ⟨a0, a1, a2⟩ := HN.out.1.c3
      obtain ⟨b0, b1, b2⟩ := HN.out.2.1.c3
      go_wp2_with fail
      with_reducible refine (HA.out _).mono ?_
      rintro e w1 ⟨rfl, hb1⟩
      rw [← HX.out]
      have HB := hide (HN.out.2.2.trans (hb1.mono HN.out.2.2.size))
      clear hb1 a0 a1 a2 b0 b1 b2
      go_wp2_with fail
      go_ret
      exact ⟨rfl, HB.out⟩
end Go.Proofs.YticljmgcgjibpaaGreatDoor

/-
  The walk of value.Compare. Conditions: numbers within 64 bits. (printed by cmpgen.py)
-/
namespace Go.Proofs.YticljmgcgjibpaaGreatDoor
open Go.RowKit

namespace Val
def compare (op : Nat) (a b : Cell.Val) : Nat × Nat :=
  if op < 7 ∨ 12 < op ∨ bothRight a b = false then (0, 2)
  else if a.k.toNat = 0 ∨ b.k.toNat = 0 then (2, 0)
  else if (numB a.k && numB b.k) = false ∧ a.k ≠ b.k then (0, 270)
  else (if holds (UInt8.ofNat op) (cmpV a b) = true then 1 else 0, 0)
theorem compare_op {op : Nat} (a b : Cell.Val) (h : op < 7 ∨ 12 < op) : compare op a b = (0, 2) := by
  unfold compare
  rw [if_pos (by omega)]
theorem compare_right {op : Nat} {a b : Cell.Val} (h : bothRight a b = false) : compare op a b = (0, 2) := by
  unfold compare
  rw [if_pos (.inr (.inr h))]
theorem compare_null {op : Nat} {a b : Cell.Val} (h1 : 7 ≤ op) (h2 : op ≤ 12) (h : bothRight a b = true) (h0 : a.k.toNat = 0 ∨ b.k.toNat = 0) : compare op a b = (2, 0) := by
  unfold compare
  rw [if_neg (by rw [h]; simp; omega), if_pos h0]
theorem compare_kind {op : Nat} {a b : Cell.Val} (h1 : 7 ≤ op) (h2 : op ≤ 12) (h : bothRight a b = true) (h0 : ¬ (a.k.toNat = 0 ∨ b.k.toNat = 0)) (h3 : (numB a.k && numB b.k) = false) (h4 : a.k ≠ b.k) : compare op a b = (0, 270) := by
  unfold compare
  rw [if_neg (by rw [h]; simp; omega), if_neg h0, if_pos ⟨h3, h4⟩]
theorem compare_go {op : Nat} {a b : Cell.Val} (h1 : 7 ≤ op) (h2 : op ≤ 12) (h : bothRight a b = true) (h0 : ¬ (a.k.toNat = 0 ∨ b.k.toNat = 0)) (h3 : (numB a.k && numB b.k) = true ∨ a.k = b.k) : compare op a b = (if holds (UInt8.ofNat op) (cmpV a b) = true then 1 else 0, 0) := by
  unfold compare
  rw [if_neg (by rw [h]; simp; omega), if_neg h0, if_neg (by rintro ⟨h5, h6⟩; rcases h3 with h3 | h3; (rw [h3] at h5; cases h5); exact h6 h3)]
end Val
theorem numB_is {k : UInt8} (h : Val.numB k = true) : k.toNat = 2 ∨ k.toNat = 3 := by
  unfold Val.numB at h
  simpa using h
set_option maxRecDepth 20000 in
set_option maxHeartbeats 6400000 in
theorem vCompare_any (op : Nat) (k : UInt8) (n : Int) (s : ByteArray) (k' : UInt8) (n' : Int) (s' : ByteArray) (w : World) (h0 : -9223372036854775808 ≤ n) (h1 : n ≤ 9223372036854775807) (h0' : -9223372036854775808 ≤ n') (h1' : n' ≤ 9223372036854775807) :
    Calls Tryz.prog 50 #[.int .u8 (op : Int), .agg #[.int .u8 (k.toNat : Int), .int .i64 n, .string s], .agg #[.int .u8 (k'.toNat : Int), .int .i64 n', .string s']] w fun e w' => e = .returned (truV (Val.compare op ⟨k, n, s⟩ ⟨k', n', s'⟩)) ∧ Below w.heap.size w w' := by
  have HN := hide (V2.new w k n s k' n' s')
  obtain ⟨p, hp⟩ : ∃ p, p = Val.compare op ⟨k, n, s⟩ ⟨k', n', s'⟩ := ⟨_, rfl⟩
  rw [← hp]
  have HP := hide hp
  clear hp
  obtain ⟨ra, hra⟩ : ∃ r, r = Cell.rightB ⟨k, n, s⟩ := ⟨_, rfl⟩
  obtain ⟨rb, hrb⟩ : ∃ r, r = Cell.rightB ⟨k', n', s'⟩ := ⟨_, rfl⟩
  have HRA := hide hra
  have HRB := hide hrb
  clear hra hrb
  by_cases hop : op < 7 ∨ 12 < op
  · have HF := hide (HP.out.trans (Val.compare_op _ _ hop))
    by_cases h7 : op < 7
    · have d1 : decide ((op : Int) < 7) = true := by simp; omega
      clear hop h7
      go_enter Tryz.func50, Tryz.ntmps50
      go_wp2_with fail
      go_ret2
      exact ⟨by rw [HF.out]; rfl, HN.out.2.2⟩
    · have d1 : decide ((op : Int) < 7) = false := by simp; omega
      have d2 : decide ((12 : Int) < (op : Int)) = true := by simp; omega
      clear hop h7
      go_enter Tryz.func50, Tryz.ntmps50
      go_wp2_with fail
      go_ret2
      exact ⟨by rw [HF.out]; rfl, HN.out.2.2⟩
  have g1 : 7 ≤ op := by omega
  have g2 : op ≤ 12 := by omega
  have d1 : decide ((op : Int) < 7) = false := by simp; omega
  have d2 : decide ((12 : Int) < (op : Int)) = false := by simp; omega
  clear hop
  go_enter Tryz.func50, Tryz.ntmps50
  go_wp2_with fail
  obtain ⟨w0, hw0⟩ : ∃ x, x = (w.alloc (.cells #[.int .u8 (k.toNat : Int), .int .i64 n, .string s] 25)).alloc (.cells #[.int .u8 (k'.toNat : Int), .int .i64 n', .string s'] 25) := ⟨_, rfl⟩
  rw [← hw0] at HN ⊢
  clear hw0
  with_reducible refine (right_any k n s w0).mono ?_
  rintro e w1 ⟨rfl, hb1⟩
  replace HN := hide (HN.out.below hb1)
  clear hb1
  rw [← HRA.out]
  cases ra with
  | false =>
    have HF : Hid (p = (0, 2)) := HP.out.trans (Val.compare_right (by unfold Val.bothRight; rw [← HRA.out]; rfl))
    go_wp2_with fail
    go_ret2
    exact ⟨by rw [HF.out]; rfl, HN.out.2.2⟩
  | true =>
    obtain ⟨b0, b1, b2⟩ := HN.out.2.1.c3
    go_wp2_with fail
    clear b0 b1 b2
    with_reducible refine (right_any k' n' s' w1).mono ?_
    rintro e w2 ⟨rfl, hb2⟩
    replace HN := hide (HN.out.below hb2)
    clear hb2
    rw [← HRB.out]
    cases rb with
    | false =>
      have HF : Hid (p = (0, 2)) := HP.out.trans (Val.compare_right (by unfold Val.bothRight; rw [← HRA.out, ← HRB.out]; rfl))
      go_wp2_with fail
      go_ret2
      exact ⟨by rw [HF.out]; rfl, HN.out.2.2⟩
    | true =>
      have HBR : Hid (Val.bothRight ⟨k, n, s⟩ ⟨k', n', s'⟩ = true) := by show _ = _; unfold Val.bothRight; rw [← HRA.out, ← HRB.out]; rfl
      obtain ⟨a0, a1, a2⟩ := HN.out.1.c3
      obtain ⟨b0, b1, b2⟩ := HN.out.2.1.c3
      by_cases hz : k.toNat = 0
      · have HF := hide (HP.out.trans (Val.compare_null g1 g2 HBR.out (.inl hz)))
        have t1 : ((k.toNat : Int) == 0) = true := by simp; omega
        clear hz
        go_wp2_with fail
        go_ret2
        exact ⟨by rw [HF.out]; rfl, HN.out.2.2⟩
      · have t1 : ((k.toNat : Int) == 0) = false := by simp; omega
        by_cases hz' : k'.toNat = 0
        · have HF := hide (HP.out.trans (Val.compare_null g1 g2 HBR.out (.inr hz')))
          have t2 : ((k'.toNat : Int) == 0) = true := by simp; omega
          clear hz hz'
          go_wp2_with fail
          go_ret2
          exact ⟨by rw [HF.out]; rfl, HN.out.2.2⟩
        · have t2 : ((k'.toNat : Int) == 0) = false := by simp; omega
          have HZ := hide (show ¬ ((⟨k, n, s⟩ : Cell.Val).k.toNat = 0 ∨ (⟨k', n', s'⟩ : Cell.Val).k.toNat = 0) from fun h => by rcases h with h | h; exact hz h; exact hz' h)
          clear hz hz'
          go_wp2_with fail
          with_reducible refine (number_any k _ rfl w2).mono ?_
          rintro e wq ⟨rfl, rfl⟩
          obtain ⟨na, hna⟩ : ∃ r, r = Val.numB k := ⟨_, rfl⟩
          obtain ⟨nb, hnb⟩ : ∃ r, r = Val.numB k' := ⟨_, rfl⟩
          have HNA := hide hna
          have HNB := hide hnb
          rw [← HNA.out]
          clear hna hnb
          cases na with
          | true =>
            go_wp2_with fail
            with_reducible refine (number_any k' _ rfl w2).mono ?_
            rintro e wq ⟨rfl, rfl⟩
            rw [← HNB.out]
            cases nb with
            | true =>
              go_wp2_with fail
              with_reducible refine (against_any k n s k' n' s' w2 (numB_is HNA.out.symm) (numB_is HNB.out.symm) HRA.out.symm HRB.out.symm h0 h1 h0' h1').mono ?_
              rintro e w3 ⟨rfl, hb3⟩
              replace HN := hide (HN.out.below hb3)
              clear hb3 a0 a1 a2 b0 b1 b2
              have HF := hide (HP.out.trans (Val.compare_go g1 g2 HBR.out HZ.out (.inl (by rw [← HNA.out, ← HNB.out]; rfl))))
              obtain ⟨c, hc⟩ : ∃ c, c = cmpV ⟨k, n, s⟩ ⟨k', n', s'⟩ := ⟨_, rfl⟩
              rw [← hc] at HF ⊢
              clear hc HP t1 t2 h0 h1 h0' h1'
              obtain rfl | rfl | rfl | rfl | rfl | rfl : op = 7 ∨ op = 8 ∨ op = 9 ∨ op = 10 ∨ op = 11 ∨ op = 12 := by omega
              · obtain ⟨r, hr⟩ : ∃ r, r = (c == 0) := ⟨_, rfl⟩
                have tr : (c == 0) = r := hr.symm
                have HG : Hid (p = (if r = true then 1 else 0, 0)) := by
                  show _ = _
                  rw [HF.out, hr]
                  unfold Val.holds
                  simp
                clear hr d1 d2 g1 g2
                cases r with
                | false =>
                  go_wp2_with fail
                  go_ret2
                  exact ⟨by rw [HG.out]; rfl, HN.out.2.2⟩
                | true =>
                  go_wp2_with fail
                  go_ret2
                  exact ⟨by rw [HG.out]; rfl, HN.out.2.2⟩
              · obtain ⟨r, hr⟩ : ∃ r, r = (c != 0) := ⟨_, rfl⟩
                have tr : (c != 0) = r := hr.symm
                have HG : Hid (p = (if r = true then 1 else 0, 0)) := by
                  show _ = _
                  rw [HF.out, hr]
                  unfold Val.holds
                  simp
                clear hr d1 d2 g1 g2
                cases r with
                | false =>
                  go_wp2_with fail
                  go_ret2
                  exact ⟨by rw [HG.out]; rfl, HN.out.2.2⟩
                | true =>
                  go_wp2_with fail
                  go_ret2
                  exact ⟨by rw [HG.out]; rfl, HN.out.2.2⟩
              · obtain ⟨r, hr⟩ : ∃ r, r = decide (c < 0) := ⟨_, rfl⟩
                have tr : decide (c < 0) = r := hr.symm
                have HG : Hid (p = (if r = true then 1 else 0, 0)) := by
                  show _ = _
                  rw [HF.out, hr]
                  unfold Val.holds
                  simp
                clear hr d1 d2 g1 g2
                cases r with
                | false =>
                  go_wp2_with fail
                  go_ret2
                  exact ⟨by rw [HG.out]; rfl, HN.out.2.2⟩
                | true =>
                  go_wp2_with fail
                  go_ret2
                  exact ⟨by rw [HG.out]; rfl, HN.out.2.2⟩
              · obtain ⟨r, hr⟩ : ∃ r, r = decide (c ≤ 0) := ⟨_, rfl⟩
                have tr : decide (c ≤ 0) = r := hr.symm
                have HG : Hid (p = (if r = true then 1 else 0, 0)) := by
                  show _ = _
                  rw [HF.out, hr]
                  unfold Val.holds
                  simp
                clear hr d1 d2 g1 g2
                cases r with
                | false =>
                  go_wp2_with fail
                  go_ret2
                  exact ⟨by rw [HG.out]; rfl, HN.out.2.2⟩
                | true =>
                  go_wp2_with fail
                  go_ret2
                  exact ⟨by rw [HG.out]; rfl, HN.out.2.2⟩
              · obtain ⟨r, hr⟩ : ∃ r, r = decide (0 < c) := ⟨_, rfl⟩
                have tr : decide (0 < c) = r := hr.symm
                have HG : Hid (p = (if r = true then 1 else 0, 0)) := by
                  show _ = _
                  rw [HF.out, hr]
                  unfold Val.holds
                  simp
                clear hr d1 d2 g1 g2
                cases r with
                | false =>
                  go_wp2_with fail
                  go_ret2
                  exact ⟨by rw [HG.out]; rfl, HN.out.2.2⟩
                | true =>
                  go_wp2_with fail
                  go_ret2
                  exact ⟨by rw [HG.out]; rfl, HN.out.2.2⟩
              · obtain ⟨r, hr⟩ : ∃ r, r = decide (0 ≤ c) := ⟨_, rfl⟩
                have tr : decide (0 ≤ c) = r := hr.symm
                have HG : Hid (p = (if r = true then 1 else 0, 0)) := by
                  show _ = _
                  rw [HF.out, hr]
                  unfold Val.holds
                  simp
                clear hr d1 d2 g1 g2
                cases r with
                | false =>
                  go_wp2_with fail
                  go_ret2
                  exact ⟨by rw [HG.out]; rfl, HN.out.2.2⟩
                | true =>
                  go_wp2_with fail
                  go_ret2
                  exact ⟨by rw [HG.out]; rfl, HN.out.2.2⟩
            | false =>
              by_cases hkk : k = k'
              · have t3 : ((k.toNat : Int) == (k'.toNat : Int)) = true := by rw [hkk]; simp
                have HF := hide (HP.out.trans (Val.compare_go g1 g2 HBR.out HZ.out (.inr hkk)))
                have HO := hide (show cmpV ⟨k, n, s⟩ ⟨k', n', s'⟩ = ordV ⟨k, n, s⟩ ⟨k', n', s'⟩ from if_pos hkk)
                clear hkk
                go_wp2_with fail
                with_reducible refine (order_any k n s k' n' s' w2).mono ?_
                rintro e w3 ⟨rfl, hb3⟩
                replace HN := hide (HN.out.below hb3)
                clear hb3 a0 a1 a2 b0 b1 b2
                rw [HO.out] at HF
                obtain ⟨c, hc⟩ : ∃ c, c = ordV ⟨k, n, s⟩ ⟨k', n', s'⟩ := ⟨_, rfl⟩
                rw [← hc] at HF ⊢
                clear hc HP t1 t2 t3 h0 h1 h0' h1' HO
                obtain rfl | rfl | rfl | rfl | rfl | rfl : op = 7 ∨ op = 8 ∨ op = 9 ∨ op = 10 ∨ op = 11 ∨ op = 12 := by omega
                · obtain ⟨r, hr⟩ : ∃ r, r = (c == 0) := ⟨_, rfl⟩
                  have tr : (c == 0) = r := hr.symm
                  have HG : Hid (p = (if r = true then 1 else 0, 0)) := by
                    show _ = _
                    rw [HF.out, hr]
                    unfold Val.holds
                    simp
                  clear hr d1 d2 g1 g2
                  cases r with
                  | false =>
                    go_wp2_with fail
                    go_ret2
                    exact ⟨by rw [HG.out]; rfl, HN.out.2.2⟩
                  | true =>
                    go_wp2_with fail
                    go_ret2
                    exact ⟨by rw [HG.out]; rfl, HN.out.2.2⟩
                · obtain ⟨r, hr⟩ : ∃ r, r = (c != 0) := ⟨_, rfl⟩
                  have tr : (c != 0) = r := hr.symm
                  have HG : Hid (p = (if r = true then 1 else 0, 0)) := by
                    show _ = _
                    rw [HF.out, hr]
                    unfold Val.holds
                    simp
                  clear hr d1 d2 g1 g2
                  cases r with
                  | false =>
                    go_wp2_with fail
                    go_ret2
                    exact ⟨by rw [HG.out]; rfl, HN.out.2.2⟩
                  | true =>
                    go_wp2_with fail
                    go_ret2
                    exact ⟨by rw [HG.out]; rfl, HN.out.2.2⟩
                · obtain ⟨r, hr⟩ : ∃ r, r = decide (c < 0) := ⟨_, rfl⟩
                  have tr : decide (c < 0) = r := hr.symm
                  have HG : Hid (p = (if r = true then 1 else 0, 0)) := by
                    show _ = _
                    rw [HF.out, hr]
                    unfold Val.holds
                    simp
                  clear hr d1 d2 g1 g2
                  cases r with
                  | false =>
                    go_wp2_with fail
                    go_ret2
                    exact ⟨by rw [HG.out]; rfl, HN.out.2.2⟩
                  | true =>
                    go_wp2_with fail
                    go_ret2
                    exact ⟨by rw [HG.out]; rfl, HN.out.2.2⟩
                · obtain ⟨r, hr⟩ : ∃ r, r = decide (c ≤ 0) := ⟨_, rfl⟩
                  have tr : decide (c ≤ 0) = r := hr.symm
                  have HG : Hid (p = (if r = true then 1 else 0, 0)) := by
                    show _ = _
                    rw [HF.out, hr]
                    unfold Val.holds
                    simp
                  clear hr d1 d2 g1 g2
                  cases r with
                  | false =>
                    go_wp2_with fail
                    go_ret2
                    exact ⟨by rw [HG.out]; rfl, HN.out.2.2⟩
                  | true =>
                    go_wp2_with fail
                    go_ret2
                    exact ⟨by rw [HG.out]; rfl, HN.out.2.2⟩
                · obtain ⟨r, hr⟩ : ∃ r, r = decide (0 < c) := ⟨_, rfl⟩
                  have tr : decide (0 < c) = r := hr.symm
                  have HG : Hid (p = (if r = true then 1 else 0, 0)) := by
                    show _ = _
                    rw [HF.out, hr]
                    unfold Val.holds
                    simp
                  clear hr d1 d2 g1 g2
                  cases r with
                  | false =>
                    go_wp2_with fail
                    go_ret2
                    exact ⟨by rw [HG.out]; rfl, HN.out.2.2⟩
                  | true =>
                    go_wp2_with fail
                    go_ret2
                    exact ⟨by rw [HG.out]; rfl, HN.out.2.2⟩
                · obtain ⟨r, hr⟩ : ∃ r, r = decide (0 ≤ c) := ⟨_, rfl⟩
                  have tr : decide (0 ≤ c) = r := hr.symm
                  have HG : Hid (p = (if r = true then 1 else 0, 0)) := by
                    show _ = _
                    rw [HF.out, hr]
                    unfold Val.holds
                    simp
                  clear hr d1 d2 g1 g2
                  cases r with
                  | false =>
                    go_wp2_with fail
                    go_ret2
                    exact ⟨by rw [HG.out]; rfl, HN.out.2.2⟩
                  | true =>
                    go_wp2_with fail
                    go_ret2
                    exact ⟨by rw [HG.out]; rfl, HN.out.2.2⟩
              · have t3 : ((k.toNat : Int) == (k'.toNat : Int)) = false := by
                  simp
                  intro h
                  exact hkk (UInt8.toNat_inj.1 (by omega))
                have HF := hide (HP.out.trans (Val.compare_kind g1 g2 HBR.out HZ.out (by rw [← HNA.out, ← HNB.out]; rfl) hkk))
                clear hkk
                go_wp2_with fail
                go_ret2
                exact ⟨by rw [HF.out]; rfl, HN.out.2.2⟩
          | false =>
            by_cases hkk : k = k'
            · have t3 : ((k.toNat : Int) == (k'.toNat : Int)) = true := by rw [hkk]; simp
              have HF := hide (HP.out.trans (Val.compare_go g1 g2 HBR.out HZ.out (.inr hkk)))
              have HO := hide (show cmpV ⟨k, n, s⟩ ⟨k', n', s'⟩ = ordV ⟨k, n, s⟩ ⟨k', n', s'⟩ from if_pos hkk)
              clear hkk
              go_wp2_with fail
              with_reducible refine (order_any k n s k' n' s' w2).mono ?_
              rintro e w3 ⟨rfl, hb3⟩
              replace HN := hide (HN.out.below hb3)
              clear hb3 a0 a1 a2 b0 b1 b2
              rw [HO.out] at HF
              obtain ⟨c, hc⟩ : ∃ c, c = ordV ⟨k, n, s⟩ ⟨k', n', s'⟩ := ⟨_, rfl⟩
              rw [← hc] at HF ⊢
              clear hc HP t1 t2 t3 h0 h1 h0' h1' HO
              obtain rfl | rfl | rfl | rfl | rfl | rfl : op = 7 ∨ op = 8 ∨ op = 9 ∨ op = 10 ∨ op = 11 ∨ op = 12 := by omega
              · obtain ⟨r, hr⟩ : ∃ r, r = (c == 0) := ⟨_, rfl⟩
                have tr : (c == 0) = r := hr.symm
                have HG : Hid (p = (if r = true then 1 else 0, 0)) := by
                  show _ = _
                  rw [HF.out, hr]
                  unfold Val.holds
                  simp
                clear hr d1 d2 g1 g2
                cases r with
                | false =>
                  go_wp2_with fail
                  go_ret2
                  exact ⟨by rw [HG.out]; rfl, HN.out.2.2⟩
                | true =>
                  go_wp2_with fail
                  go_ret2
                  exact ⟨by rw [HG.out]; rfl, HN.out.2.2⟩
              · obtain ⟨r, hr⟩ : ∃ r, r = (c != 0) := ⟨_, rfl⟩
                have tr : (c != 0) = r := hr.symm
                have HG : Hid (p = (if r = true then 1 else 0, 0)) := by
                  show _ = _
                  rw [HF.out, hr]
                  unfold Val.holds
                  simp
                clear hr d1 d2 g1 g2
                cases r with
                | false =>
                  go_wp2_with fail
                  go_ret2
                  exact ⟨by rw [HG.out]; rfl, HN.out.2.2⟩
                | true =>
                  go_wp2_with fail
                  go_ret2
                  exact ⟨by rw [HG.out]; rfl, HN.out.2.2⟩
              · obtain ⟨r, hr⟩ : ∃ r, r = decide (c < 0) := ⟨_, rfl⟩
                have tr : decide (c < 0) = r := hr.symm
                have HG : Hid (p = (if r = true then 1 else 0, 0)) := by
                  show _ = _
                  rw [HF.out, hr]
                  unfold Val.holds
                  simp
                clear hr d1 d2 g1 g2
                cases r with
                | false =>
                  go_wp2_with fail
                  go_ret2
                  exact ⟨by rw [HG.out]; rfl, HN.out.2.2⟩
                | true =>
                  go_wp2_with fail
                  go_ret2
                  exact ⟨by rw [HG.out]; rfl, HN.out.2.2⟩
              · obtain ⟨r, hr⟩ : ∃ r, r = decide (c ≤ 0) := ⟨_, rfl⟩
                have tr : decide (c ≤ 0) = r := hr.symm
                have HG : Hid (p = (if r = true then 1 else 0, 0)) := by
                  show _ = _
                  rw [HF.out, hr]
                  unfold Val.holds
                  simp
                clear hr d1 d2 g1 g2
                cases r with
                | false =>
                  go_wp2_with fail
                  go_ret2
                  exact ⟨by rw [HG.out]; rfl, HN.out.2.2⟩
                | true =>
                  go_wp2_with fail
                  go_ret2
                  exact ⟨by rw [HG.out]; rfl, HN.out.2.2⟩
              · obtain ⟨r, hr⟩ : ∃ r, r = decide (0 < c) := ⟨_, rfl⟩
                have tr : decide (0 < c) = r := hr.symm
                have HG : Hid (p = (if r = true then 1 else 0, 0)) := by
                  show _ = _
                  rw [HF.out, hr]
                  unfold Val.holds
                  simp
                clear hr d1 d2 g1 g2
                cases r with
                | false =>
                  go_wp2_with fail
                  go_ret2
                  exact ⟨by rw [HG.out]; rfl, HN.out.2.2⟩
                | true =>
                  go_wp2_with fail
                  go_ret2
                  exact ⟨by rw [HG.out]; rfl, HN.out.2.2⟩
              · obtain ⟨r, hr⟩ : ∃ r, r = decide (0 ≤ c) := ⟨_, rfl⟩
                have tr : decide (0 ≤ c) = r := hr.symm
                have HG : Hid (p = (if r = true then 1 else 0, 0)) := by
                  show _ = _
                  rw [HF.out, hr]
                  unfold Val.holds
                  simp
                clear hr d1 d2 g1 g2
                cases r with
                | false =>
                  go_wp2_with fail
                  go_ret2
                  exact ⟨by rw [HG.out]; rfl, HN.out.2.2⟩
                | true =>
                  go_wp2_with fail
                  go_ret2
                  exact ⟨by rw [HG.out]; rfl, HN.out.2.2⟩
            · have t3 : ((k.toNat : Int) == (k'.toNat : Int)) = false := by
                simp
                intro h
                exact hkk (UInt8.toNat_inj.1 (by omega))
              have HF := hide (HP.out.trans (Val.compare_kind g1 g2 HBR.out HZ.out (by rw [← HNA.out]; rfl) hkk))
              clear hkk
              go_wp2_with fail
              go_ret2
              exact ⟨by rw [HF.out]; rfl, HN.out.2.2⟩
end Go.Proofs.YticljmgcgjibpaaGreatDoor

/-
  The walk of chanceryref17.Order. Conditions: numbers within 64 bits. (printed by cmpgen.py)
-/
namespace Go.Proofs.YticljmgcgjibpaaGreatDoor
open Go.RowKit

theorem less_cmp : ∀ l m, Op.bytesLess l m = decide (cmpB l m = -1) := by
  intro l
  induction l with
  | nil => intro m; cases m <;> simp [Op.bytesLess, cmpB]
  | cons c l ih =>
    intro m
    cases m with
    | nil => simp [Op.bytesLess, cmpB]
    | cons d m =>
      simp only [Op.bytesLess, cmpB, ih]
      by_cases h : c < d
      · simp [h]
      · by_cases h2 : d < c
        · have : ¬ c = d := fun e => by rw [e] at h2; exact absurd h2 (UInt8.lt_irrefl _)
          simp [h, h2, this]
        · have : c = d := UInt8.le_antisymm (UInt8.not_lt.1 h2) (UInt8.not_lt.1 h)
          subst this
          simp [h]
theorem str_list (s : ByteArray) : s.toList = s.data.toList := ByteArray.toList_eq s
set_option maxRecDepth 20000 in
set_option maxHeartbeats 1600000 in
theorem rOrder_any (k : UInt8) (n : Int) (s : ByteArray) (k' : UInt8) (n' : Int) (s' : ByteArray) (w : World) :
    Calls Tryz.prog 41 #[.agg #[.int .u8 (k.toNat : Int), .int .i64 n, .string s], .agg #[.int .u8 (k'.toNat : Int), .int .i64 n', .string s']] w fun e w' => e = .returned (.int .i64 (ordV ⟨k, n, s⟩ ⟨k', n', s'⟩)) ∧ Below w.heap.size w w' := by
  have HN := hide (V2.new w k n s k' n' s')
  obtain ⟨p, hp⟩ : ∃ p, p = ordV ⟨k, n, s⟩ ⟨k', n', s'⟩ := ⟨_, rfl⟩
  rw [← hp]
  have HP : Hid (p = or3 (cmpI k.toNat k'.toNat) (cmpI n n') (cmpB s.data.toList s'.data.toList)) := hp
  clear hp
  by_cases c1 : k.toNat < k'.toNat
  · have t1 : decide (k.toNat < k'.toNat) = true := by simp; omega
    have HF : Hid (p = -1) := by show _ = _; rw [HP.out, cmpI_lt (by omega)]; rfl
    clear c1
    go_enter Tryz.func41, Tryz.ntmps41
    go_wp2_with fail
    obtain ⟨w0, hw0⟩ : ∃ x, x = (w.alloc (.cells #[.int .u8 (k.toNat : Int), .int .i64 n, .string s] 25)).alloc (.cells #[.int .u8 (k'.toNat : Int), .int .i64 n', .string s'] 25) := ⟨_, rfl⟩
    rw [← hw0] at HN ⊢
    clear hw0
    obtain ⟨a0, a1, a2⟩ := HN.out.1.c3
    obtain ⟨b0, b1, b2⟩ := HN.out.2.1.c3
    go_wp2_with fail
    go_ret
    exact ⟨by rw [HF.out]; rfl, HN.out.2.2⟩
  have t1 : decide (k.toNat < k'.toNat) = false := by simp; omega
  by_cases c2 : k'.toNat < k.toNat
  · have t2 : decide (k'.toNat < k.toNat) = true := by simp; omega
    have HF : Hid (p = 1) := by show _ = _; rw [HP.out, cmpI_gt (by omega)]; rfl
    clear c1 c2
    go_enter Tryz.func41, Tryz.ntmps41
    go_wp2_with fail
    obtain ⟨w0, hw0⟩ : ∃ x, x = (w.alloc (.cells #[.int .u8 (k.toNat : Int), .int .i64 n, .string s] 25)).alloc (.cells #[.int .u8 (k'.toNat : Int), .int .i64 n', .string s'] 25) := ⟨_, rfl⟩
    rw [← hw0] at HN ⊢
    clear hw0
    obtain ⟨a0, a1, a2⟩ := HN.out.1.c3
    obtain ⟨b0, b1, b2⟩ := HN.out.2.1.c3
    go_wp2_with fail
    go_ret
    exact ⟨by rw [HF.out]; rfl, HN.out.2.2⟩
  have t2 : decide (k'.toNat < k.toNat) = false := by simp; omega
  have e1 : cmpI (k.toNat : Int) (k'.toNat : Int) = 0 := by unfold cmpI; rw [if_neg (by omega), if_neg (by omega)]
  by_cases c3 : n < n'
  · have t3 : decide (n < n') = true := by simp; omega
    have HF : Hid (p = -1) := by show _ = _; rw [HP.out, e1, cmpI_lt c3]; rfl
    clear c1 c2 c3 e1
    go_enter Tryz.func41, Tryz.ntmps41
    go_wp2_with fail
    obtain ⟨w0, hw0⟩ : ∃ x, x = (w.alloc (.cells #[.int .u8 (k.toNat : Int), .int .i64 n, .string s] 25)).alloc (.cells #[.int .u8 (k'.toNat : Int), .int .i64 n', .string s'] 25) := ⟨_, rfl⟩
    rw [← hw0] at HN ⊢
    clear hw0
    obtain ⟨a0, a1, a2⟩ := HN.out.1.c3
    obtain ⟨b0, b1, b2⟩ := HN.out.2.1.c3
    go_wp2_with fail
    go_ret
    exact ⟨by rw [HF.out]; rfl, HN.out.2.2⟩
  have t3 : decide (n < n') = false := by simp; omega
  by_cases c4 : n' < n
  · have t4 : decide (n' < n) = true := by simp; omega
    have HF : Hid (p = 1) := by show _ = _; rw [HP.out, e1, cmpI_gt c4]; rfl
    clear c1 c2 c3 c4 e1
    go_enter Tryz.func41, Tryz.ntmps41
    go_wp2_with fail
    obtain ⟨w0, hw0⟩ : ∃ x, x = (w.alloc (.cells #[.int .u8 (k.toNat : Int), .int .i64 n, .string s] 25)).alloc (.cells #[.int .u8 (k'.toNat : Int), .int .i64 n', .string s'] 25) := ⟨_, rfl⟩
    rw [← hw0] at HN ⊢
    clear hw0
    obtain ⟨a0, a1, a2⟩ := HN.out.1.c3
    obtain ⟨b0, b1, b2⟩ := HN.out.2.1.c3
    go_wp2_with fail
    go_ret
    exact ⟨by rw [HF.out]; rfl, HN.out.2.2⟩
  have t4 : decide (n' < n) = false := by simp; omega
  have e2 : cmpI n n' = 0 := by unfold cmpI; rw [if_neg (by omega), if_neg (by omega)]
  have HF : Hid (p = cmpB s.data.toList s'.data.toList) := by show _ = _; rw [HP.out, e1, e2]; rfl
  obtain ⟨r, hr⟩ : ∃ r, r = cmpB s.data.toList s'.data.toList := ⟨_, rfl⟩
  rw [← hr] at HF
  have t5 : Op.bytesLess s.toList s'.toList = decide (r = -1) := by rw [less_cmp, str_list, str_list, hr]
  have t6 : (s.toList == s'.toList) = decide (r = 0) := by
    rw [Bool.eq_iff_iff]
    simp only [beq_iff_eq, decide_eq_true_eq]
    rw [str_list, str_list, hr, cmpB_zero]
  have hr3 := cmpB_range s.data.toList s'.data.toList
  rw [← hr] at hr3
  clear c1 c2 c3 c4 e1 e2 hr
  rcases hr3 with rfl | rfl | rfl
  · simp only [decide_true] at t5
    clear t6
    go_enter Tryz.func41, Tryz.ntmps41
    go_wp2_with fail
    obtain ⟨w0, hw0⟩ : ∃ x, x = (w.alloc (.cells #[.int .u8 (k.toNat : Int), .int .i64 n, .string s] 25)).alloc (.cells #[.int .u8 (k'.toNat : Int), .int .i64 n', .string s'] 25) := ⟨_, rfl⟩
    rw [← hw0] at HN ⊢
    clear hw0
    obtain ⟨a0, a1, a2⟩ := HN.out.1.c3
    obtain ⟨b0, b1, b2⟩ := HN.out.2.1.c3
    go_wp2_with fail
    go_ret
    exact ⟨by rw [HF.out]; rfl, HN.out.2.2⟩
  · simp only [decide_true] at t6
    simp at t5
    go_enter Tryz.func41, Tryz.ntmps41
    go_wp2_with fail
    obtain ⟨w0, hw0⟩ : ∃ x, x = (w.alloc (.cells #[.int .u8 (k.toNat : Int), .int .i64 n, .string s] 25)).alloc (.cells #[.int .u8 (k'.toNat : Int), .int .i64 n', .string s'] 25) := ⟨_, rfl⟩
    rw [← hw0] at HN ⊢
    clear hw0
    obtain ⟨a0, a1, a2⟩ := HN.out.1.c3
    obtain ⟨b0, b1, b2⟩ := HN.out.2.1.c3
    go_wp2_with fail
    go_ret
    exact ⟨by rw [HF.out]; rfl, HN.out.2.2⟩
  · have t7 : (!(s.toList == s'.toList)) = true := by rw [t6]; rfl
    simp at t5
    clear t6
    go_enter Tryz.func41, Tryz.ntmps41
    go_wp2_with fail
    obtain ⟨w0, hw0⟩ : ∃ x, x = (w.alloc (.cells #[.int .u8 (k.toNat : Int), .int .i64 n, .string s] 25)).alloc (.cells #[.int .u8 (k'.toNat : Int), .int .i64 n', .string s'] 25) := ⟨_, rfl⟩
    rw [← hw0] at HN ⊢
    clear hw0
    obtain ⟨a0, a1, a2⟩ := HN.out.1.c3
    obtain ⟨b0, b1, b2⟩ := HN.out.2.1.c3
    go_wp2_with fail
    go_ret
    exact ⟨by rw [HF.out]; rfl, HN.out.2.2⟩
end Go.Proofs.YticljmgcgjibpaaGreatDoor

/-
  The walk of chanceryref17.Compare. Conditions: numbers within 64 bits. (printed by cmpgen.py)
-/
namespace Go.Proofs.YticljmgcgjibpaaGreatDoor
open Go.RowKit

/-- The block of y beside the values'. -/
def YB (w wr : World) (k : UInt8) (n : Int) (s : ByteArray) (k' : UInt8) (n' : Int) (s' : ByteArray) (g : Nat) (cs : Array Value) : Prop := V2 w wr k n s k' n' s' ∧ Blk wr g 82 cs ∧ w.heap.size + 1 < g
section
variable {w wr w' : World} {k : UInt8} {n : Int} {s : ByteArray} {k' : UInt8} {n' : Int} {s' : ByteArray} {g : Nat} {cs : Array Value}
theorem V2.drew (h : V2 w wr k n s k' n' s') : V2 w { wr with drawn := wr.drawn + 1 } k n s k' n' s' := ⟨h.1, h.2.1, h.2.2.drew⟩
theorem V2.sixFar (h : V2 w wr k n s k' n' s') (hg : w.heap.size + 1 < g) (u0 u1 u2 u3 u4 u5 : Value) : V2 w ((((((wr.setCell ⟨g, 0, none⟩ (u0)).setCell ⟨g, 1, none⟩ (u1)).setCell ⟨g, 2, none⟩ (u2)).setCell ⟨g, 3, none⟩ (u3)).setCell ⟨g, 4, none⟩ (u4)).setCell ⟨g, 5, none⟩ (u5)) k n s k' n' s' :=
  ⟨h.1.sixFar (by omega) _ _ _ _ _ _, h.2.1.sixFar (by omega) _ _ _ _ _ _, below_six h.2.2 (by omega) _ _ _ _ _ _⟩
theorem V2.put1 (h : V2 w wr k n s k' n' s') (hg : w.heap.size + 1 < g) (i : Nat) (u : Value) : V2 w (wr.setCell ⟨g, i, none⟩ u) k n s k' n' s' :=
  ⟨h.1.far (show w.heap.size ≠ g by omega) _, h.2.1.far (show w.heap.size + 1 ≠ g by omega) _, h.2.2.setCell (p := ⟨g, i, none⟩) (show w.heap.size ≤ g by omega) _⟩
theorem YB.below (h : YB w wr k n s k' n' s' g cs) (hb : Below wr.heap.size wr w') : YB w w' k n s k' n' s' g cs := ⟨h.1.below hb, h.2.1.below hb h.2.1.lt, h.2.2⟩
theorem YB.drew (h : YB w wr k n s k' n' s' g cs) : YB w { wr with drawn := wr.drawn + 1 } k n s k' n' s' g cs := ⟨h.1.drew, h.2.1, h.2.2⟩
end
theorem signOf_cmp {sg : Bool} {sv : Nat} {x y : Int} (h : Val.signed sg sv = x - y) : signOf sg sv = cmpI x y := by
  unfold signOf cmpI
  unfold Val.signed at h
  cases sg with
  | false =>
    simp at h
    by_cases h0 : sv = 0
    · rw [if_pos h0, if_neg (by omega), if_neg (by omega)]
    · rw [if_neg h0, if_neg (by decide), if_neg (by omega), if_pos (by omega)]
  | true =>
    simp at h
    by_cases h0 : sv = 0
    · rw [if_pos h0, if_neg (by omega), if_neg (by omega)]
    · rw [if_neg h0, if_pos rfl, if_pos (by omega)]
set_option maxRecDepth 20000 in
set_option maxHeartbeats 6400000 in
theorem rCompare_any (op : Nat) (k : UInt8) (n : Int) (s : ByteArray) (k' : UInt8) (n' : Int) (s' : ByteArray) (w : World) (h0 : -9223372036854775808 ≤ n) (h1 : n ≤ 9223372036854775807) (h0' : -9223372036854775808 ≤ n') (h1' : n' ≤ 9223372036854775807) :
    Calls Tryz.prog 28 #[.int .u8 (op : Int), .agg #[.int .u8 (k.toNat : Int), .int .i64 n, .string s], .agg #[.int .u8 (k'.toNat : Int), .int .i64 n', .string s']] w fun e w' => e = .returned (truV (Val.compare op ⟨k, n, s⟩ ⟨k', n', s'⟩)) ∧ Below w.heap.size w w' := by
  have HN := hide (V2.new w k n s k' n' s')
  obtain ⟨p, hp⟩ : ∃ p, p = Val.compare op ⟨k, n, s⟩ ⟨k', n', s'⟩ := ⟨_, rfl⟩
  rw [← hp]
  have HP := hide hp
  clear hp
  obtain ⟨ra, hra⟩ : ∃ r, r = Cell.rightB ⟨k, n, s⟩ := ⟨_, rfl⟩
  obtain ⟨rb, hrb⟩ : ∃ r, r = Cell.rightB ⟨k', n', s'⟩ := ⟨_, rfl⟩
  have HRA := hide hra
  have HRB := hide hrb
  clear hra hrb
  by_cases hop : op < 7 ∨ 12 < op
  · have HF := hide (HP.out.trans (Val.compare_op _ _ hop))
    by_cases h7 : op < 7
    · have d1 : decide ((op : Int) < 7) = true := by simp; omega
      clear hop h7
      go_enter Tryz.func28, Tryz.ntmps28
      go_wp2_with fail
      go_ret2
      exact ⟨by rw [HF.out]; rfl, HN.out.2.2⟩
    · have d1 : decide ((op : Int) < 7) = false := by simp; omega
      have d2 : decide ((12 : Int) < (op : Int)) = true := by simp; omega
      clear hop h7
      go_enter Tryz.func28, Tryz.ntmps28
      go_wp2_with fail
      go_ret2
      exact ⟨by rw [HF.out]; rfl, HN.out.2.2⟩
  have g1 : 7 ≤ op := by omega
  have g2 : op ≤ 12 := by omega
  have d1 : decide ((op : Int) < 7) = false := by simp; omega
  have d2 : decide ((12 : Int) < (op : Int)) = false := by simp; omega
  clear hop
  go_enter Tryz.func28, Tryz.ntmps28
  go_wp2_with fail
  obtain ⟨w0, hw0⟩ : ∃ x, x = (w.alloc (.cells #[.int .u8 (k.toNat : Int), .int .i64 n, .string s] 25)).alloc (.cells #[.int .u8 (k'.toNat : Int), .int .i64 n', .string s'] 25) := ⟨_, rfl⟩
  rw [← hw0] at HN ⊢
  clear hw0
  with_reducible refine (refRight_any k n s w0).mono ?_
  rintro e w1 ⟨rfl, hb1⟩
  replace HN := hide (HN.out.below hb1)
  clear hb1
  rw [← HRA.out]
  cases ra with
  | false =>
    have HF : Hid (p = (0, 2)) := HP.out.trans (Val.compare_right (by unfold Val.bothRight; rw [← HRA.out]; rfl))
    go_wp2_with fail
    go_ret2
    exact ⟨by rw [HF.out]; rfl, HN.out.2.2⟩
  | true =>
    obtain ⟨b0, b1, b2⟩ := HN.out.2.1.c3
    go_wp2_with fail
    clear b0 b1 b2
    with_reducible refine (refRight_any k' n' s' w1).mono ?_
    rintro e w2 ⟨rfl, hb2⟩
    replace HN := hide (HN.out.below hb2)
    clear hb2
    rw [← HRB.out]
    cases rb with
    | false =>
      have HF : Hid (p = (0, 2)) := HP.out.trans (Val.compare_right (by unfold Val.bothRight; rw [← HRA.out, ← HRB.out]; rfl))
      go_wp2_with fail
      go_ret2
      exact ⟨by rw [HF.out]; rfl, HN.out.2.2⟩
    | true =>
      have HBR : Hid (Val.bothRight ⟨k, n, s⟩ ⟨k', n', s'⟩ = true) := by show _ = _; unfold Val.bothRight; rw [← HRA.out, ← HRB.out]; rfl
      obtain ⟨a0, a1, a2⟩ := HN.out.1.c3
      obtain ⟨b0, b1, b2⟩ := HN.out.2.1.c3
      by_cases hz : k.toNat = 0
      · have HF := hide (HP.out.trans (Val.compare_null g1 g2 HBR.out (.inl hz)))
        have t1 : ((k.toNat : Int) == 0) = true := by simp; omega
        clear hz
        go_wp2_with fail
        go_ret2
        exact ⟨by rw [HF.out]; rfl, HN.out.2.2⟩
      · have t1 : ((k.toNat : Int) == 0) = false := by simp; omega
        by_cases hz' : k'.toNat = 0
        · have HF := hide (HP.out.trans (Val.compare_null g1 g2 HBR.out (.inr hz')))
          have t2 : ((k'.toNat : Int) == 0) = true := by simp; omega
          clear hz hz'
          go_wp2_with fail
          go_ret2
          exact ⟨by rw [HF.out]; rfl, HN.out.2.2⟩
        · have t2 : ((k'.toNat : Int) == 0) = false := by simp; omega
          have HZ := hide (show ¬ ((⟨k, n, s⟩ : Cell.Val).k.toNat = 0 ∨ (⟨k', n', s'⟩ : Cell.Val).k.toNat = 0) from fun h => by rcases h with h | h; exact hz h; exact hz' h)
          clear hz hz'
          go_wp2_with fail
          with_reducible refine (rOrder_any k n s k' n' s' w2).mono ?_
          rintro e w3 ⟨rfl, hb3⟩
          replace HN := hide (HN.out.below hb3)
          clear hb3 a0 a1 a2 b0 b1 b2
          obtain ⟨a0, a1, a2⟩ := HN.out.1.c3
          obtain ⟨b0, b1, b2⟩ := HN.out.2.1.c3
          obtain ⟨c, hc⟩ : ∃ c, c = ordV ⟨k, n, s⟩ ⟨k', n', s'⟩ := ⟨_, rfl⟩
          rw [← hc]
          have HC := hide hc
          clear hc
          by_cases hkk : k = k'
          · have t3 : (k.toNat == k'.toNat) = true := by rw [hkk]; simp
            have t4 : ((k.toNat : Int) != (k'.toNat : Int)) = false := by rw [hkk]; simp
            have HF : Hid (p = (if Val.holds (UInt8.ofNat op) c = true then 1 else 0, 0)) := by
              show _ = _
              rw [HP.out, Val.compare_go g1 g2 HBR.out HZ.out (.inr hkk), HC.out]
              unfold cmpV
              rw [if_pos hkk]
            clear hkk HC HP t1 t2 h0 h1 h0' h1' a1 a2 b1 b2
            obtain rfl | rfl | rfl | rfl | rfl | rfl : op = 7 ∨ op = 8 ∨ op = 9 ∨ op = 10 ∨ op = 11 ∨ op = 12 := by omega
            · obtain ⟨r, hr⟩ : ∃ r, r = (c == 0) := ⟨_, rfl⟩
              have tr : (c == 0) = r := hr.symm
              have HG : Hid (p = (if r = true then 1 else 0, 0)) := by
                show _ = _
                rw [HF.out, hr]
                unfold Val.holds
                simp
              clear hr d1 d2 g1 g2
              cases r with
              | false =>
                go_wp2_with fail
                go_ret2
                exact ⟨by rw [HG.out]; rfl, HN.out.2.2⟩
              | true =>
                go_wp2_with fail
                go_ret2
                exact ⟨by rw [HG.out]; rfl, HN.out.2.2⟩
            · obtain ⟨r, hr⟩ : ∃ r, r = (c != 0) := ⟨_, rfl⟩
              have tr : (c != 0) = r := hr.symm
              have HG : Hid (p = (if r = true then 1 else 0, 0)) := by
                show _ = _
                rw [HF.out, hr]
                unfold Val.holds
                simp
              clear hr d1 d2 g1 g2
              cases r with
              | false =>
                go_wp2_with fail
                go_ret2
                exact ⟨by rw [HG.out]; rfl, HN.out.2.2⟩
              | true =>
                go_wp2_with fail
                go_ret2
                exact ⟨by rw [HG.out]; rfl, HN.out.2.2⟩
            · obtain ⟨r, hr⟩ : ∃ r, r = decide (c < 0) := ⟨_, rfl⟩
              have tr : decide (c < 0) = r := hr.symm
              have HG : Hid (p = (if r = true then 1 else 0, 0)) := by
                show _ = _
                rw [HF.out, hr]
                unfold Val.holds
                simp
              clear hr d1 d2 g1 g2
              cases r with
              | false =>
                go_wp2_with fail
                go_ret2
                exact ⟨by rw [HG.out]; rfl, HN.out.2.2⟩
              | true =>
                go_wp2_with fail
                go_ret2
                exact ⟨by rw [HG.out]; rfl, HN.out.2.2⟩
            · obtain ⟨r, hr⟩ : ∃ r, r = decide (c ≤ 0) := ⟨_, rfl⟩
              have tr : decide (c ≤ 0) = r := hr.symm
              have HG : Hid (p = (if r = true then 1 else 0, 0)) := by
                show _ = _
                rw [HF.out, hr]
                unfold Val.holds
                simp
              clear hr d1 d2 g1 g2
              cases r with
              | false =>
                go_wp2_with fail
                go_ret2
                exact ⟨by rw [HG.out]; rfl, HN.out.2.2⟩
              | true =>
                go_wp2_with fail
                go_ret2
                exact ⟨by rw [HG.out]; rfl, HN.out.2.2⟩
            · obtain ⟨r, hr⟩ : ∃ r, r = decide (0 < c) := ⟨_, rfl⟩
              have tr : decide (0 < c) = r := hr.symm
              have HG : Hid (p = (if r = true then 1 else 0, 0)) := by
                show _ = _
                rw [HF.out, hr]
                unfold Val.holds
                simp
              clear hr d1 d2 g1 g2
              cases r with
              | false =>
                go_wp2_with fail
                go_ret2
                exact ⟨by rw [HG.out]; rfl, HN.out.2.2⟩
              | true =>
                go_wp2_with fail
                go_ret2
                exact ⟨by rw [HG.out]; rfl, HN.out.2.2⟩
            · obtain ⟨r, hr⟩ : ∃ r, r = decide (0 ≤ c) := ⟨_, rfl⟩
              have tr : decide (0 ≤ c) = r := hr.symm
              have HG : Hid (p = (if r = true then 1 else 0, 0)) := by
                show _ = _
                rw [HF.out, hr]
                unfold Val.holds
                simp
              clear hr d1 d2 g1 g2
              cases r with
              | false =>
                go_wp2_with fail
                go_ret2
                exact ⟨by rw [HG.out]; rfl, HN.out.2.2⟩
              | true =>
                go_wp2_with fail
                go_ret2
                exact ⟨by rw [HG.out]; rfl, HN.out.2.2⟩
          · have hne : k.toNat ≠ k'.toNat := fun h => hkk (UInt8.toNat_inj.1 h)
            have t4 : ((k.toNat : Int) != (k'.toNat : Int)) = true := by simp; omega
            clear hne
            go_wp2_with fail
            with_reducible refine (rnumber_any k n s w3).mono ?_
            rintro e w4 ⟨rfl, hb4⟩
            replace HN := hide (HN.out.below hb4)
            clear hb4 a0 a1 a2 b0 b1 b2
            obtain ⟨na, hna⟩ : ∃ r, r = Val.numB k := ⟨_, rfl⟩
            obtain ⟨nb, hnb⟩ : ∃ r, r = Val.numB k' := ⟨_, rfl⟩
            have HNA := hide hna
            have HNB := hide hnb
            rw [← HNA.out]
            clear hna hnb
            cases na with
            | false =>
              have HF := hide (HP.out.trans (Val.compare_kind g1 g2 HBR.out HZ.out (by rw [← HNA.out]; rfl) hkk))
              clear hkk
              go_wp2_with fail
              go_ret2
              exact ⟨by rw [HF.out]; rfl, HN.out.2.2⟩
            | true =>
              obtain ⟨b0, b1, b2⟩ := HN.out.2.1.c3
              go_wp2_with fail
              with_reducible refine (rnumber_any k' n' s' w4).mono ?_
              rintro e w5 ⟨rfl, hb5⟩
              replace HN := hide (HN.out.below hb5)
              clear hb5 b0 b1 b2
              rw [← HNB.out]
              cases nb with
              | false =>
                have HF := hide (HP.out.trans (Val.compare_kind g1 g2 HBR.out HZ.out (by rw [← HNA.out, ← HNB.out]; rfl) hkk))
                clear hkk
                go_wp2_with fail
                go_ret2
                exact ⟨by rw [HF.out]; rfl, HN.out.2.2⟩
              | true =>
                obtain ⟨b0, b1, b2⟩ := HN.out.2.1.c3
                obtain ⟨sg, sv, hsv⟩ : ∃ sg sv, addOf (decide (n < 0)) (fixN k n) (!decide (n' < 0)) (fixN k' n') = (sg, sv) := ⟨_, _, rfl⟩
                have hla := fixN_lt (k := k) h0 h1
                have hlb := fixN_lt (k := k') h0' h1'
                have HL := hide (addOf_lt hsv hla hlb)
                have HBa : Hid (fixN k n < Big.P 5) := by rw [P5]; show _ < _; omega
                have HBb : Hid (fixN k' n' < Big.P 5) := by rw [P5]; show _ < _; omega
                have hcs : signOf sg sv = cmpV ⟨k, n, s⟩ ⟨k', n', s'⟩ := by
                  have e := addOf_to hsv
                  rw [Val.signed_not, ← Int.sub_eq_add_neg] at e
                  rw [← signed_eq (decide (n < 0)), ← signed_eq (decide (n' < 0)), fixN_signed ⟨k, n, s⟩, fixN_signed ⟨k', n', s'⟩] at e
                  rw [signOf_cmp e]
                  exact (if_neg hkk).symm
                obtain ⟨d, hd⟩ : ∃ d, d = signOf sg sv := ⟨_, rfl⟩
                have HS : Hid (d = signOf sg sv) := hd
                have HF : Hid (p = (if Val.holds (UInt8.ofNat op) d = true then 1 else 0, 0)) := by
                  show _ = _
                  rw [HP.out, Val.compare_go g1 g2 HBR.out HZ.out (.inl (by rw [← HNA.out, ← HNB.out]; rfl)), ← hcs, hd]
                have HA := hide hsv
                clear hsv hla hlb hcs hd hkk HP HC
                go_wp2_with fail
                with_reducible refine (fixed_any k' n' s' w5 h0' h1').mono ?_
                rintro e w6 ⟨rfl, hb6⟩
                replace HN := hide (HN.out.below hb6)
                clear hb6 b0 b1 b2
                go_frame
                unfold G6
                go_upto_region 11 with fail
                obtain ⟨g, hg⟩ : ∃ g, g = w6.heap.size := ⟨_, rfl⟩
                obtain ⟨w7, hw7⟩ : ∃ x, x = w6.alloc (.cells #[.bool (!decide (n' < 0)), .int .u64 ((Big.dig (fixN k' n') 0 : Nat) : Int), .int .u64 ((Big.dig (fixN k' n') 1 : Nat) : Int), .int .u64 ((Big.dig (fixN k' n') 2 : Nat) : Int), .int .u64 ((Big.dig (fixN k' n') 3 : Nat) : Int), .int .u64 ((Big.dig (fixN k' n') 4 : Nat) : Int)] 82) := ⟨_, rfl⟩
                rw [← hg, ← hw7]
                have HY : Hid (YB w w7 k n s k' n' s' g #[.bool (!decide (n' < 0)), .int .u64 ((Big.dig (fixN k' n') 0 : Nat) : Int), .int .u64 ((Big.dig (fixN k' n') 1 : Nat) : Int), .int .u64 ((Big.dig (fixN k' n') 2 : Nat) : Int), .int .u64 ((Big.dig (fixN k' n') 3 : Nat) : Int), .int .u64 ((Big.dig (fixN k' n') 4 : Nat) : Int)]) := by
                  have hz := HN.out.2.1.lt
                  rw [hw7, hg]
                  exact ⟨HN.out.below ((Below.refl _ _).alloc (Nat.le_refl _) _), Blk.new _ _ _, by omega⟩
                clear hg hw7 HN t1 t2 t4
                refine wp_region_flow (fun w' => YB w w' k n s k' n' s' g #[.bool (!decide (n' < 0)), .int .u64 ((Big.dig (fixN k' n') 0 : Nat) : Int), .int .u64 ((Big.dig (fixN k' n') 1 : Nat) : Int), .int .u64 ((Big.dig (fixN k' n') 2 : Nat) : Int), .int .u64 ((Big.dig (fixN k' n') 3 : Nat) : Int), .int .u64 ((Big.dig (fixN k' n') 4 : Nat) : Int)]) 5 (by kernel_rfl) (by kernel_rfl) HY.out.drew ?_
                simp only [List.take_succ_cons, List.take_zero, List.drop_succ_cons, List.drop_zero]
                refine wpFlow_read ?_ rfl (fun w' hS => ?_) ?_
                rotate_left
                · obtain ⟨a0, a1, a2⟩ := hS.1.1.c3
                  obtain ⟨b0, b1, b2⟩ := hS.1.2.1.c3
                  go_simp
                  rfl
                refine wpFlow_call _ _ _ rfl (fun w' hS => ?_) (fun w' (hS : (fun w' => YB w w' k n s k' n' s' g #[.bool (!decide (n' < 0)), .int .u64 ((Big.dig (fixN k' n') 0 : Nat) : Int), .int .u64 ((Big.dig (fixN k' n') 1 : Nat) : Int), .int .u64 ((Big.dig (fixN k' n') 2 : Nat) : Int), .int .u64 ((Big.dig (fixN k' n') 3 : Nat) : Int), .int .u64 ((Big.dig (fixN k' n') 4 : Nat) : Int)]) w') => ((fixed_any k n s w' h0 h1).mono fun e w2 hp => ⟨hp.1, hS.below hp.2⟩)) ?_
                · go_simp
                refine wpFlow_read ?_ rfl (fun w' hS => ?_) ?_
                rotate_left
                · obtain ⟨y0, y1, y2, y3, y4, y5⟩ := Blk.c6 (n := !decide (n' < 0)) (V := fixN k' n') hS.2.1
                  go_simp
                  rfl
                refine wpFlow_call _ _ _ rfl (fun w' hS => ?_) (fun w' (hS : (fun w' => YB w w' k n s k' n' s' g #[.bool (!decide (n' < 0)), .int .u64 ((Big.dig (fixN k' n') 0 : Nat) : Int), .int .u64 ((Big.dig (fixN k' n') 1 : Nat) : Int), .int .u64 ((Big.dig (fixN k' n') 2 : Nat) : Int), .int .u64 ((Big.dig (fixN k' n') 3 : Nat) : Int), .int .u64 ((Big.dig (fixN k' n') 4 : Nat) : Int)]) w') => ((radd_at w' HBa.out HBb.out HA.out).mono fun e w2 hp => ⟨hp.1, hS.below hp.2⟩)) ?_
                · go_simp
                  rfl
                refine wpFlow_call _ _ _ rfl (fun w' hS => ?_) (fun w' (hS : (fun w' => YB w w' k n s k' n' s' g #[.bool (!decide (n' < 0)), .int .u64 ((Big.dig (fixN k' n') 0 : Nat) : Int), .int .u64 ((Big.dig (fixN k' n') 1 : Nat) : Int), .int .u64 ((Big.dig (fixN k' n') 2 : Nat) : Int), .int .u64 ((Big.dig (fixN k' n') 3 : Nat) : Int), .int .u64 ((Big.dig (fixN k' n') 4 : Nat) : Int)]) w') => ((sign_at sg sv w' HL.out).mono fun e w2 hp => ⟨hp.1, hS.below hp.2⟩)) ?_
                · go_simp
                  rfl
                refine wpFlow_nil fun w8 hS => ?_
                have HN := hide hS.1
                clear hS HY
                rw [← HS.out]
                go_frame
                obtain rfl | rfl | rfl | rfl | rfl | rfl : op = 7 ∨ op = 8 ∨ op = 9 ∨ op = 10 ∨ op = 11 ∨ op = 12 := by omega
                · obtain ⟨r, hr⟩ : ∃ r, r = (d == 0) := ⟨_, rfl⟩
                  have tr : (d == 0) = r := hr.symm
                  have HG : Hid (p = (if r = true then 1 else 0, 0)) := by
                    show _ = _
                    rw [HF.out, hr]
                    unfold Val.holds
                    simp
                  clear hr d1 d2 g1 g2
                  cases r with
                  | false =>
                    go_wp2_with fail
                    go_ret2
                    exact ⟨by rw [HG.out]; rfl, HN.out.2.2⟩
                  | true =>
                    go_wp2_with fail
                    go_ret2
                    exact ⟨by rw [HG.out]; rfl, HN.out.2.2⟩
                · obtain ⟨r, hr⟩ : ∃ r, r = (d != 0) := ⟨_, rfl⟩
                  have tr : (d != 0) = r := hr.symm
                  have HG : Hid (p = (if r = true then 1 else 0, 0)) := by
                    show _ = _
                    rw [HF.out, hr]
                    unfold Val.holds
                    simp
                  clear hr d1 d2 g1 g2
                  cases r with
                  | false =>
                    go_wp2_with fail
                    go_ret2
                    exact ⟨by rw [HG.out]; rfl, HN.out.2.2⟩
                  | true =>
                    go_wp2_with fail
                    go_ret2
                    exact ⟨by rw [HG.out]; rfl, HN.out.2.2⟩
                · obtain ⟨r, hr⟩ : ∃ r, r = decide (d < 0) := ⟨_, rfl⟩
                  have tr : decide (d < 0) = r := hr.symm
                  have HG : Hid (p = (if r = true then 1 else 0, 0)) := by
                    show _ = _
                    rw [HF.out, hr]
                    unfold Val.holds
                    simp
                  clear hr d1 d2 g1 g2
                  cases r with
                  | false =>
                    go_wp2_with fail
                    go_ret2
                    exact ⟨by rw [HG.out]; rfl, HN.out.2.2⟩
                  | true =>
                    go_wp2_with fail
                    go_ret2
                    exact ⟨by rw [HG.out]; rfl, HN.out.2.2⟩
                · obtain ⟨r, hr⟩ : ∃ r, r = decide (d ≤ 0) := ⟨_, rfl⟩
                  have tr : decide (d ≤ 0) = r := hr.symm
                  have HG : Hid (p = (if r = true then 1 else 0, 0)) := by
                    show _ = _
                    rw [HF.out, hr]
                    unfold Val.holds
                    simp
                  clear hr d1 d2 g1 g2
                  cases r with
                  | false =>
                    go_wp2_with fail
                    go_ret2
                    exact ⟨by rw [HG.out]; rfl, HN.out.2.2⟩
                  | true =>
                    go_wp2_with fail
                    go_ret2
                    exact ⟨by rw [HG.out]; rfl, HN.out.2.2⟩
                · obtain ⟨r, hr⟩ : ∃ r, r = decide (0 < d) := ⟨_, rfl⟩
                  have tr : decide (0 < d) = r := hr.symm
                  have HG : Hid (p = (if r = true then 1 else 0, 0)) := by
                    show _ = _
                    rw [HF.out, hr]
                    unfold Val.holds
                    simp
                  clear hr d1 d2 g1 g2
                  cases r with
                  | false =>
                    go_wp2_with fail
                    go_ret2
                    exact ⟨by rw [HG.out]; rfl, HN.out.2.2⟩
                  | true =>
                    go_wp2_with fail
                    go_ret2
                    exact ⟨by rw [HG.out]; rfl, HN.out.2.2⟩
                · obtain ⟨r, hr⟩ : ∃ r, r = decide (0 ≤ d) := ⟨_, rfl⟩
                  have tr : decide (0 ≤ d) = r := hr.symm
                  have HG : Hid (p = (if r = true then 1 else 0, 0)) := by
                    show _ = _
                    rw [HF.out, hr]
                    unfold Val.holds
                    simp
                  clear hr d1 d2 g1 g2
                  cases r with
                  | false =>
                    go_wp2_with fail
                    go_ret2
                    exact ⟨by rw [HG.out]; rfl, HN.out.2.2⟩
                  | true =>
                    go_wp2_with fail
                    go_ret2
                    exact ⟨by rw [HG.out]; rfl, HN.out.2.2⟩
end Go.Proofs.YticljmgcgjibpaaGreatDoor
