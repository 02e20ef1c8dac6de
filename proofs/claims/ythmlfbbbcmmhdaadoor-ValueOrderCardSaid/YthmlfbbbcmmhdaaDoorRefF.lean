/-
  The walks of chanceryref17: fixed, asked. Conditions: numbers within 64 bits.
-/
import Derived.Test.YthmlfbbbcmmhdaaDoorRefE
namespace Go.Proofs.YthmlfbbbcmmhdaaDoor
open Go.RowKit

def fixN (k : UInt8) (n : Int) : Nat := if k.toNat = 2 then n.natAbs * 10000 else n.natAbs
theorem fixN_signed (v : Cell.Val) : signed (decide (v.n < 0)) (fixN v.k v.n) = Val.fixed v := by
  unfold fixN Val.fixed
  split
  · have := Val.signed_mul v.n 10000
    rw [show decide ((10000 : Int) < 0) = false from rfl, show (10000 : Int).natAbs = 10000 from rfl] at this
    rw [show decide (v.n < 0) = (decide (v.n < 0) != false) by cases decide (v.n < 0) <;> rfl]
    exact this
  · exact Val.signed_abs v.n
theorem fixN_lt {k : UInt8} {n : Int} (h0 : -9223372036854775808 ≤ n) (h1 : n ≤ 9223372036854775807) : fixN k n ≤ 92233720368547758080000 := by
  unfold fixN
  split <;> omega
/-- A value's block and a zero whole number's. -/
def FX (w wr : World) (k : UInt8) (n : Int) (s : ByteArray) : Prop := Blk wr w.heap.size 25 #[.int .u8 (k.toNat : Int), .int .i64 n, .string s] ∧ Blk wr (w.heap.size + 1) 51 (G6 false 0) ∧ Below w.heap.size w wr
theorem FX.new (w : World) (k : UInt8) (n : Int) (s : ByteArray) : FX w ((w.alloc (.cells #[.int .u8 (k.toNat : Int), .int .i64 n, .string s] 25)).alloc (.cells #[.bool false, .int .u64 0, .int .u64 0, .int .u64 0, .int .u64 0, .int .u64 0] 51)) k n s := by
  refine ⟨(Blk.new _ _ _).alloc _, ?_, ((Below.refl _ _).alloc (Nat.le_refl _) _).alloc (by simp) _⟩
  have := Blk.new (w.alloc (.cells #[.int .u8 (k.toNat : Int), .int .i64 n, .string s] 25)) 51 (G6 false 0)
  rw [G6_zero] at this ⊢
  simpa using this
theorem FX.below {w wr w' : World} {k : UInt8} {n : Int} {s : ByteArray} (h : FX w wr k n s) (hb : Below wr.heap.size wr w') : FX w w' k n s := by
  have := h.2.1.lt
  exact ⟨h.1.below hb (by omega), h.2.1.below hb (by omega), h.2.2.trans (hb.mono (by omega))⟩
set_option maxRecDepth 8000 in
set_option maxHeartbeats 1600000 in
theorem fixed_any (k : UInt8) (n : Int) (s : ByteArray) (w : World) (h0 : -9223372036854775808 ≤ n) (h1 : n ≤ 9223372036854775807) :
    Calls Tryd.prog 41 #[.agg #[.int .u8 (k.toNat : Int), .int .i64 n, .string s]] w fun e w' => e = .returned (.agg (G6 (decide (n < 0)) (fixN k n))) ∧ Below w.heap.size w w' := by
  have HN := hide (FX.new w k n s)
  by_cases h2 : k.toNat = 2
  · have HF : Hid (fixN k n = n.natAbs * 10000) := if_pos h2
    have t2 : ((k.toNat : Int) == 2) = true := by simp; omega
    clear h2
    go_enter Tryd.func41, Tryd.ntmps41
    go_wp2_with fail
    obtain ⟨w0, hw0⟩ : ∃ x, x = (w.alloc (.cells #[.int .u8 (k.toNat : Int), .int .i64 n, .string s] 25)).alloc (.cells #[.bool false, .int .u64 0, .int .u64 0, .int .u64 0, .int .u64 0, .int .u64 0] 51) := ⟨_, rfl⟩
    rw [← hw0] at HN ⊢
    clear hw0
    with_reducible refine (big_any n w0 h0 h1).mono ?_
    rintro e w1 ⟨rfl, hb1⟩
    replace HN := hide (HN.out.below hb1)
    clear hb1
    go_wp2_with fail
    with_reducible refine (big_any 10000 w1 (by omega) (by omega)).mono ?_
    rintro e w2 ⟨rfl, hb2⟩
    replace HN := hide (HN.out.below hb2)
    clear hb2
    go_wp2_with fail
    with_reducible refine (rtimes_any (decide (n < 0)) false n.natAbs 10000 w2 (by rw [P5]; omega)).mono ?_
    rintro e w3 ⟨rfl, hb3⟩
    replace HN := hide (HN.out.below hb3)
    clear hb3
    rw [show (decide (n < 0) != false) = decide (n < 0) by cases decide (n < 0) <;> rfl, ← HF.out]
    obtain ⟨r0, r1, r2, r3, r4, r5⟩ := HN.out.2.1.c6
    obtain ⟨f0, f1, f2, f3, f4, f5⟩ := HN.out.2.1.f6
    have hl := HN.out.2.1.lt
    unfold G6
    go_wp2_with fail
    refine bodyPost_ret (v := .agg (G6 (decide (n < 0)) (fixN k n))) (by simp [results, Tryd.results41, go_sem, r0, r1, r2, r3, r4, r5, G6]) rfl ⟨rfl, below_six HN.out.2.2 (by omega) _ _ _ _ _ _⟩
  · have HF : Hid (fixN k n = n.natAbs) := if_neg h2
    have t2 : ((k.toNat : Int) == 2) = false := by simp; omega
    clear h2
    go_enter Tryd.func41, Tryd.ntmps41
    go_wp2_with fail
    obtain ⟨w0, hw0⟩ : ∃ x, x = (w.alloc (.cells #[.int .u8 (k.toNat : Int), .int .i64 n, .string s] 25)).alloc (.cells #[.bool false, .int .u64 0, .int .u64 0, .int .u64 0, .int .u64 0, .int .u64 0] 51) := ⟨_, rfl⟩
    rw [← hw0] at HN ⊢
    clear hw0
    with_reducible refine (big_any n w0 h0 h1).mono ?_
    rintro e w1 ⟨rfl, hb1⟩
    replace HN := hide (HN.out.below hb1)
    clear hb1
    rw [← HF.out]
    obtain ⟨r0, r1, r2, r3, r4, r5⟩ := HN.out.2.1.c6
    obtain ⟨f0, f1, f2, f3, f4, f5⟩ := HN.out.2.1.f6
    have hl := HN.out.2.1.lt
    unfold G6
    go_wp2_with fail
    refine bodyPost_ret (v := .agg (G6 (decide (n < 0)) (fixN k n))) (by simp [results, Tryd.results41, go_sem, r0, r1, r2, r3, r4, r5, G6]) rfl ⟨rfl, below_six HN.out.2.2 (by omega) _ _ _ _ _ _⟩

/-- Two values' blocks. -/
def V2 (w wr : World) (k : UInt8) (n : Int) (s : ByteArray) (k' : UInt8) (n' : Int) (s' : ByteArray) : Prop := Blk wr w.heap.size 25 #[.int .u8 (k.toNat : Int), .int .i64 n, .string s] ∧ Blk wr (w.heap.size + 1) 25 #[.int .u8 (k'.toNat : Int), .int .i64 n', .string s'] ∧ Below w.heap.size w wr
theorem V2.new (w : World) (k : UInt8) (n : Int) (s : ByteArray) (k' : UInt8) (n' : Int) (s' : ByteArray) : V2 w ((w.alloc (.cells #[.int .u8 (k.toNat : Int), .int .i64 n, .string s] 25)).alloc (.cells #[.int .u8 (k'.toNat : Int), .int .i64 n', .string s'] 25)) k n s k' n' s' := by
  refine ⟨(Blk.new _ _ _).alloc _, ?_, ((Below.refl _ _).alloc (Nat.le_refl _) _).alloc (by simp) _⟩
  have := Blk.new (w.alloc (.cells #[.int .u8 (k.toNat : Int), .int .i64 n, .string s] 25)) 25 #[.int .u8 (k'.toNat : Int), .int .i64 n', .string s']
  simpa using this
theorem V2.below {w wr w' : World} {k : UInt8} {n : Int} {s : ByteArray} {k' : UInt8} {n' : Int} {s' : ByteArray} (h : V2 w wr k n s k' n' s') (hb : Below wr.heap.size wr w') : V2 w w' k n s k' n' s' := by
  have := h.2.1.lt
  exact ⟨h.1.below hb (by omega), h.2.1.below hb (by omega), h.2.2.trans (hb.mono (by omega))⟩
def askV (p : Bool × Nat) : Value := .tuple #[.bool p.1, .int .i64 ((p.2 : Nat) : Int)]
set_option maxRecDepth 8000 in
set_option maxHeartbeats 3200000 in
theorem asked_any (k : UInt8) (n : Int) (s : ByteArray) (k' : UInt8) (n' : Int) (s' : ByteArray) (w : World) :
    Calls Tryd.prog 61 #[.agg #[.int .u8 (k.toNat : Int), .int .i64 n, .string s], .agg #[.int .u8 (k'.toNat : Int), .int .i64 n', .string s']] w fun e w' => e = .returned (askV (Val.asked ⟨k, n, s⟩ ⟨k', n', s'⟩)) ∧ Below w.heap.size w w' := by
  have HN := hide (V2.new w k n s k' n' s')
  obtain ⟨p, hp⟩ : ∃ p, p = Val.asked ⟨k, n, s⟩ ⟨k', n', s'⟩ := ⟨_, rfl⟩
  rw [← hp]
  unfold Val.asked Val.bothRight at hp
  have HP := hide hp
  clear hp
  go_enter Tryd.func61, Tryd.ntmps61
  go_wp2_with fail
  obtain ⟨w0, hw0⟩ : ∃ x, x = (w.alloc (.cells #[.int .u8 (k.toNat : Int), .int .i64 n, .string s] 25)).alloc (.cells #[.int .u8 (k'.toNat : Int), .int .i64 n', .string s'] 25) := ⟨_, rfl⟩
  rw [← hw0] at HN ⊢
  clear hw0
  with_reducible refine (refRight_any k n s w0).mono ?_
  rintro e w1 ⟨rfl, hb1⟩
  replace HN := hide (HN.out.below hb1)
  clear hb1
  obtain ⟨ra, hra⟩ : ∃ r, r = Cell.rightB ⟨k, n, s⟩ := ⟨_, rfl⟩
  obtain ⟨rb, hrb⟩ : ∃ r, r = Cell.rightB ⟨k', n', s'⟩ := ⟨_, rfl⟩
  rw [← hra, ← hrb] at HP
  rw [← hra]
  have HRB := hide hrb
  clear hra hrb
  cases ra with
  | false =>
    have HF : Hid (p = (false, 2)) := HP.out.trans (if_pos rfl)
    go_wp2_with fail
    go_ret2
    exact ⟨by rw [HF.out]; rfl, HN.out.2.2⟩
  | true =>
    obtain ⟨b0, b1, b2⟩ := HN.out.2.1.c3
    go_wp2_with fail
    clear b0 b1 b2
    with_reducible refine (refRight_any k' n' s' w1).mono ?_
    rintro e w2 ⟨rfl, hb2⟩
    replace HN := hide (HN.out.below hb2)
    clear hb2
    rw [← HRB.out]
    cases rb with
    | false =>
      have HF : Hid (p = (false, 2)) := HP.out.trans (if_pos rfl)
      go_wp2_with fail
      go_ret2
      exact ⟨by rw [HF.out]; rfl, HN.out.2.2⟩
    | true =>
      have HP1 := hide (HP.out.trans (if_neg (by simp)))
      clear HP
      unfold Val.wrongKind at HP1
      simp only at HP1
      obtain ⟨na, hna⟩ : ∃ r, r = Val.numB k := ⟨_, rfl⟩
      obtain ⟨nb, hnb⟩ : ∃ r, r = Val.numB k' := ⟨_, rfl⟩
      rw [← hna, ← hnb] at HP1
      have HNA := hide hna
      have HNB := hide hnb
      clear hna hnb
      obtain ⟨a0, a1, a2⟩ := HN.out.1.c3
      obtain ⟨b0, b1, b2⟩ := HN.out.2.1.c3
      -- the first: null, a number, or another
      by_cases hk : k.toNat = 0
      · rw [decide_eq_true hk] at HP1
        have tk : ((k.toNat : Int) == 0) = true := by simp; omega
        have tk' : ((k.toNat : Int) != 0) = false := by simp; omega
        clear hk
        by_cases hk' : k'.toNat = 0
        · rw [decide_eq_true hk'] at HP1
          have sk : ((k'.toNat : Int) == 0) = true := by simp; omega
          have sk' : ((k'.toNat : Int) != 0) = false := by simp; omega
          clear hk'
          have HF : Hid (p = (true, 0)) := HP1.out
          go_wp2_with fail
          go_ret2
          exact ⟨by rw [HF.out]; rfl, HN.out.2.2⟩
        · rw [decide_eq_false hk'] at HP1
          have sk : ((k'.toNat : Int) == 0) = false := by simp; omega
          have sk' : ((k'.toNat : Int) != 0) = true := by simp; omega
          clear hk'
          go_wp2_with fail
          clear a0 a1 a2 b0 b1 b2
          with_reducible refine (rnumber_any k' n' s' w2).mono ?_
          rintro e w3 ⟨rfl, hb3⟩
          replace HN := hide (HN.out.below hb3)
          clear hb3
          rw [← HNB.out]
          obtain ⟨a0, a1, a2⟩ := HN.out.1.c3
          obtain ⟨b0, b1, b2⟩ := HN.out.2.1.c3
          cases nb with
          | true =>
            have HF : Hid (p = (true, 0)) := HP1.out
            go_wp2_with fail
            go_ret2
            exact ⟨by rw [HF.out]; rfl, HN.out.2.2⟩
          | false =>
            have HF : Hid (p = (false, 270)) := HP1.out
            go_wp2_with fail
            go_ret2
            exact ⟨by rw [HF.out]; rfl, HN.out.2.2⟩
      · rw [decide_eq_false hk] at HP1
        have tk : ((k.toNat : Int) == 0) = false := by simp; omega
        have tk' : ((k.toNat : Int) != 0) = true := by simp; omega
        clear hk
        go_wp2_with fail
        clear a0 a1 a2 b0 b1 b2
        with_reducible refine (rnumber_any k n s w2).mono ?_
        rintro e w3 ⟨rfl, hb3⟩
        replace HN := hide (HN.out.below hb3)
        clear hb3
        rw [← HNA.out]
        obtain ⟨a0, a1, a2⟩ := HN.out.1.c3
        obtain ⟨b0, b1, b2⟩ := HN.out.2.1.c3
        cases na with
        | false =>
          have HF : Hid (p = (false, 270)) := HP1.out
          go_wp2_with fail
          go_ret2
          exact ⟨by rw [HF.out]; rfl, HN.out.2.2⟩
        | true =>
          by_cases hk' : k'.toNat = 0
          · rw [decide_eq_true hk'] at HP1
            have sk : ((k'.toNat : Int) == 0) = true := by simp; omega
            have sk' : ((k'.toNat : Int) != 0) = false := by simp; omega
            clear hk'
            have HF : Hid (p = (true, 0)) := HP1.out
            go_wp2_with fail
            go_ret2
            exact ⟨by rw [HF.out]; rfl, HN.out.2.2⟩
          · rw [decide_eq_false hk'] at HP1
            have sk : ((k'.toNat : Int) == 0) = false := by simp; omega
            have sk' : ((k'.toNat : Int) != 0) = true := by simp; omega
            clear hk'
            go_wp2_with fail
            clear a0 a1 a2 b0 b1 b2
            with_reducible refine (rnumber_any k' n' s' w3).mono ?_
            rintro e w4 ⟨rfl, hb4⟩
            replace HN := hide (HN.out.below hb4)
            clear hb4
            rw [← HNB.out]
            obtain ⟨a0, a1, a2⟩ := HN.out.1.c3
            obtain ⟨b0, b1, b2⟩ := HN.out.2.1.c3
            cases nb with
            | true =>
              have HF : Hid (p = (false, 0)) := HP1.out
              go_wp2_with fail
              go_ret2
              exact ⟨by rw [HF.out]; rfl, HN.out.2.2⟩
            | false =>
              have HF : Hid (p = (false, 270)) := HP1.out
              go_wp2_with fail
              go_ret2
              exact ⟨by rw [HF.out]; rfl, HN.out.2.2⟩
end Go.Proofs.YthmlfbbbcmmhdaaDoor
