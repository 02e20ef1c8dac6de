/-
  The walks of chanceryref17: fixed, asked. Conditions: numbers within 64 bits.
-/
import Derived.Test.YticljmgcgjibpaaGreatDoorRefE
namespace Go.Proofs.YticljmgcgjibpaaGreatDoor
open Go.RowKit

def fixN (k : UInt8) (n : Int) : Nat := if k.toNat = 2 then n.natAbs * 10000 else n.natAbs
theorem fixN_signed (v : Cell.Val) : signed (decide (v.n < 0)) (fixN v.k v.n) = Val.fixed v := by
  unfold fixN Val.fixed
  split
  · have := Val.signed_mul v.n 10000
    rw [show decide ((10000 : Int) < 0) = false from rfl, show (10000 : Int).natAbs = 10000 from rfl] at this
    rw [show decide (v.n < 0) = (decide (v.n < 0) != false) by cases decide (v.n < 0) <;> rfl]
    exact this
  · exact Val.signed_abs v.n
theorem fixN_lt {k : UInt8} {n : Int} (h0 : -9223372036854775808 ≤ n) (h1 : n ≤ 9223372036854775807) : fixN k n ≤ 92233720368547758080000 := by
  unfold fixN
  split <;> omega
/-- A value's block and a zero whole number's. -/
def FX (w wr : World) (k : UInt8) (n : Int) (s : ByteArray) : Prop := Blk wr w.heap.size 25 #[.int .u8 (k.toNat : Int), .int .i64 n, .string s] ∧ Blk wr (w.heap.size + 1) 82 (G6 false 0) ∧ Below w.heap.size w wr
theorem FX.new (w : World) (k : UInt8) (n : Int) (s : ByteArray) : FX w ((w.alloc (.cells #[.int .u8 (k.toNat : Int), .int .i64 n, .string s] 25)).alloc (.cells #[.bool false, .int .u64 0, .int .u64 0, .int .u64 0, .int .u64 0, .int .u64 0] 82)) k n s := by
  refine ⟨(Blk.new _ _ _).alloc _, ?_, ((Below.refl _ _).alloc (Nat.le_refl _) _).alloc (by simp) _⟩
  have := Blk.new (w.alloc (.cells #[.int .u8 (k.toNat : Int), .int .i64 n, .string s] 25)) 82 (G6 false 0)
  rw [G6_zero] at this ⊢
  simpa using this
theorem FX.below {w wr w' : World} {k : UInt8} {n : Int} {s : ByteArray} (h : FX w wr k n s) (hb : Below wr.heap.size wr w') : FX w w' k n s := by
  have := h.2.1.lt
  exact ⟨h.1.below hb (by omega), h.2.1.below hb (by omega), h.2.2.trans (hb.mono (by omega))⟩
set_option maxRecDepth 8000 in
set_option maxHeartbeats 1600000 in
theorem fixed_any (k : UInt8) (n : Int) (s : ByteArray) (w : World) (h0 : -9223372036854775808 ≤ n) (h1 : n ≤ 9223372036854775807) :
    Calls Tryz.prog 65 #[.agg #[.int .u8 (k.toNat : Int), .int .i64 n, .string s]] w fun e w' => e = .returned (.agg (G6 (decide (n < 0)) (fixN k n))) ∧ Below w.heap.size w w' := by
  have HN := hide (FX.new w k n s)
  by_cases h2 : k.toNat = 2
  · have HF : Hid (fixN k n = n.natAbs * 10000) := if_pos h2
    have t2 : ((k.toNat : Int) == 2) = true := by simp; omega
    clear h2
    go_enter Tryz.func65, Tryz.ntmps65
    go_wp2_with fail
    obtain ⟨w0, hw0⟩ : ∃ x, x = (w.alloc (.cells #[.int .u8 (k.toNat : Int), .int .i64 n, .string s] 25)).alloc (.cells #[.bool false, .int .u64 0, .int .u64 0, .int .u64 0, .int .u64 0, .int .u64 0] 82) := ⟨_, rfl⟩
    rw [← hw0] at HN ⊢
    clear hw0
    with_reducible refine (big_any n w0 h0 h1).mono ?_
    rintro e w1 ⟨rfl, hb1⟩
    replace HN := hide (HN.out.below hb1)
    clear hb1
    go_wp2_with fail
    with_reducible refine (big_any 10000 w1 (by omega) (by omega)).mono ?_
    rintro e w2 ⟨rfl, hb2⟩
    replace HN := hide (HN.out.below hb2)
    clear hb2
    go_wp2_with fail
    with_reducible refine (rtimes_any (decide (n < 0)) false n.natAbs 10000 w2 (by rw [P5]; omega)).mono ?_
    rintro e w3 ⟨rfl, hb3⟩
    replace HN := hide (HN.out.below hb3)
    clear hb3
    rw [show (decide (n < 0) != false) = decide (n < 0) by cases decide (n < 0) <;> rfl, ← HF.out]
    obtain ⟨r0, r1, r2, r3, r4, r5⟩ := HN.out.2.1.c6
    obtain ⟨f0, f1, f2, f3, f4, f5⟩ := HN.out.2.1.f6
    have hl := HN.out.2.1.lt
    unfold G6
    go_wp2_with fail
    refine bodyPost_ret (v := .agg (G6 (decide (n < 0)) (fixN k n))) (by simp [results, Tryz.results65, go_sem, r0, r1, r2, r3, r4, r5, G6]) rfl ⟨rfl, below_six HN.out.2.2 (by omega) _ _ _ _ _ _⟩
  · have HF : Hid (fixN k n = n.natAbs) := if_neg h2
    have t2 : ((k.toNat : Int) == 2) = false := by simp; omega
    clear h2
    go_enter Tryz.func65, Tryz.ntmps65
    go_wp2_with fail
    obtain ⟨w0, hw0⟩ : ∃ x, x = (w.alloc (.cells #[.int .u8 (k.toNat : Int), .int .i64 n, .string s] 25)).alloc (.cells #[.bool false, .int .u64 0, .int .u64 0, .int .u64 0, .int .u64 0, .int .u64 0] 82) := ⟨_, rfl⟩
    rw [← hw0] at HN ⊢
    clear hw0
    with_reducible refine (big_any n w0 h0 h1).mono ?_
    rintro e w1 ⟨rfl, hb1⟩
    replace HN := hide (HN.out.below hb1)
    clear hb1
    rw [← HF.out]
    obtain ⟨r0, r1, r2, r3, r4, r5⟩ := HN.out.2.1.c6
    obtain ⟨f0, f1, f2, f3, f4, f5⟩ := HN.out.2.1.f6
    have hl := HN.out.2.1.lt
    unfold G6
    go_wp2_with fail
    refine bodyPost_ret (v := .agg (G6 (decide (n < 0)) (fixN k n))) (by simp [results, Tryz.results65, go_sem, r0, r1, r2, r3, r4, r5, G6]) rfl ⟨rfl, below_six HN.out.2.2 (by omega) _ _ _ _ _ _⟩

/-- Two values' blocks. -/
def V2 (w wr : World) (k : UInt8) (n : Int) (s : ByteArray) (k' : UInt8) (n' : Int) (s' : ByteArray) : Prop := Blk wr w.heap.size 25 #[.int .u8 (k.toNat : Int), .int .i64 n, .string s] ∧ Blk wr (w.heap.size + 1) 25 #[.int .u8 (k'.toNat : Int), .int .i64 n', .string s'] ∧ Below w.heap.size w wr
theorem V2.new (w : World) (k : UInt8) (n : Int) (s : ByteArray) (k' : UInt8) (n' : Int) (s' : ByteArray) : V2 w ((w.alloc (.cells #[.int .u8 (k.toNat : Int), .int .i64 n, .string s] 25)).alloc (.cells #[.int .u8 (k'.toNat : Int), .int .i64 n', .string s'] 25)) k n s k' n' s' := by
  refine ⟨(Blk.new _ _ _).alloc _, ?_, ((Below.refl _ _).alloc (Nat.le_refl _) _).alloc (by simp) _⟩
  have := Blk.new (w.alloc (.cells #[.int .u8 (k.toNat : Int), .int .i64 n, .string s] 25)) 25 #[.int .u8 (k'.toNat : Int), .int .i64 n', .string s']
  simpa using this
theorem V2.below {w wr w' : World} {k : UInt8} {n : Int} {s : ByteArray} {k' : UInt8} {n' : Int} {s' : ByteArray} (h : V2 w wr k n s k' n' s') (hb : Below wr.heap.size wr w') : V2 w w' k n s k' n' s' := by
  have := h.2.1.lt
  exact ⟨h.1.below hb (by omega), h.2.1.below hb (by omega), h.2.2.trans (hb.mono (by omega))⟩
def askV (p : Bool × Nat) : Value := .tuple #[.bool p.1, .int .i64 ((p.2 : Nat) : Int)]
set_option maxRecDepth 8000 in
set_option maxHeartbeats 3200000 in
theorem asked_any (k : UInt8) (n : Int) (s : ByteArray) (k' : UInt8) (n' : Int) (s' : ByteArray) (w : World) :
    Calls Tryz.prog 61 #[.agg #[.int .u8 (k.toNat : Int), .int .i64 n, .string s], .agg #[.int .u8 (k'.toNat : Int), .int .i64 n', .string s']] w fun e w' => e = .returned (askV (Val.asked ⟨k, n, s⟩ ⟨k', n', s'⟩)) ∧ Below w.heap.size w w' := by
  have HN := hide (V2.new w k n s k' n' s')
  obtain ⟨p, hp⟩ : ∃ p, p = Val.asked ⟨k, n, s⟩ ⟨k', n', s'⟩ := ⟨_, rfl⟩
  rw [← hp]
  unfold Val.asked Val.bothRight at hp
  have HP := hide hp
  clear hp
  go_enter Tryz.func61, Tryz.ntmps61
  go_wp2_with fail
  obtain ⟨w0, hw0⟩ : ∃ x, x = (w.alloc (.cells #[.int .u8 (k.toNat : Int), .int .i64 n, .string s] 25)).alloc (.cells #[.int .u8 (k'.toNat : Int), .int .i64 n', .string s'] 25) := ⟨_, rfl⟩
  rw [← hw0] at HN ⊢
  clear hw0
  with_reducible refine (refRight_any k n s w0).mono ?_
  rintro e w1 ⟨rfl, hb1⟩
  replace HN := hide (HN.out.below hb1)
  clear hb1
  obtain ⟨ra, hra⟩ : ∃ r, r = Cell.rightB ⟨k, n, s⟩ := ⟨_, rfl⟩
  obtain ⟨rb, hrb⟩ : ∃ r, r = Cell.rightB ⟨k', n', s'⟩ := ⟨_, rfl⟩
  rw [← hra, ← hrb] at HP
  rw [← hra]
  have HRB := hide hrb
  clear hra hrb
  cases ra with
  | false =>
    have HF : Hid (p = (false, 2)) := HP.out.trans (if_pos rfl)
    go_wp2_with fail
    go_ret2
    exact ⟨by rw [HF.out]; rfl, HN.out.2.2⟩
  | true =>
    obtain ⟨b0, b1, b2⟩ := HN.out.2.1.c3
    go_wp2_with fail
    clear b0 b1 b2
    with_reducible refine (refRight_any k' n' s' w1).mono ?_
    rintro e w2 ⟨rfl, hb2⟩
    replace HN := hide (HN.out.below hb2)
    clear hb2
    rw [← HRB.out]
    cases rb with
    | false =>
      have HF : Hid (p = (false, 2)) := HP.out.trans (if_pos rfl)
      go_wp2_with fail
      go_ret2
      exact ⟨by rw [HF.out]; rfl, HN.out.2.2⟩
    | true =>
      have HP1 := hide (HP.out.trans (if_neg (by simp)))
      clear HP
      unfold Val.wrongKind at HP1
      simp only at HP1
      obtain ⟨na, hna⟩ : ∃ r, r = Val.numB k := ⟨_, rfl⟩
      obtain ⟨nb, hnb⟩ : ∃ r, r = Val.numB k' := ⟨_, rfl⟩
      rw [← hna, ← hnb] at HP1
      have HNA := hide hna
      have HNB := hide hnb
      clear hna hnb
      obtain ⟨a0, a1, a2⟩ := HN.out.1.c3
      obtain ⟨b0, b1, b2⟩ := HN.out.2.1.c3
      -- the first: null, a number, or another
      by_cases hk : k.toNat = 0
      · rw [decide_eq_true hk] at HP1
        have tk : ((k.toNat : Int) == 0) = true := by simp; omega
        have tk' : ((k.toNat : Int) != 0) = false := by simp; omega
        clear hk
        by_cases hk' : k'.toNat = 0
        · rw [decide_eq_true hk'] at HP1
          have sk : ((k'.toNat : Int) == 0) = true := by simp; omega
          have sk' : ((k'.toNat : Int) != 0) = false := by simp; omega
          clear hk'
          have HF : Hid (p = (true, 0)) := HP1.out
          go_wp2_with fail
          go_ret2
          exact ⟨by rw [HF.out]; rfl, HN.out.2.2⟩
        · rw [decide_eq_false hk'] at HP1
          have sk : ((k'.toNat : Int) == 0) = false := by simp; omega
          have sk' : ((k'.toNat : Int) != 0) = true := by simp; omega
          clear hk'
          go_wp2_with fail
          clear a0 a1 a2 b0 b1 b2
          with_reducible refine (rnumber_any k' n' s' w2).mono ?_
          rintro e w3 ⟨rfl, hb3⟩
          replace HN := hide (HN.out.below hb3)
          clear hb3
          rw [← HNB.out]
          obtain ⟨a0, a1, a2⟩ := HN.out.1.c3
          obtain ⟨b0, b1, b2⟩ := HN.out.2.1.c3
          cases nb with
          | true =>
            have HF : Hid (p = (true, 0)) := HP1.out
            go_wp2_with fail
            go_ret2
            exact ⟨by rw [HF.out]; rfl, HN.out.2.2⟩
          | false =>
            have HF : Hid (p = (false, 270)) := HP1.out
            go_wp2_with fail
            go_ret2
            exact ⟨by rw [HF.out]; rfl, HN.out.2.2⟩
      · rw [decide_eq_false hk] at HP1
        have tk : ((k.toNat : Int) == 0) = false := by simp; omega
        have tk' : ((k.toNat : Int) != 0) = true := by simp; omega
        clear hk
        go_wp2_with fail
        clear a0 a1 a2 b0 b1 b2
        with_reducible refine (rnumber_any k n s w2).mono ?_
        rintro e w3 ⟨rfl, hb3⟩
        replace HN := hide (HN.out.below hb3)
        clear hb3
        rw [← HNA.out]
        obtain ⟨a0, a1, a2⟩ := HN.out.1.c3
        obtain ⟨b0, b1, b2⟩ := HN.out.2.1.c3
        cases na with
        | false =>
          have HF : Hid (p = (false, 270)) := HP1.out
          go_wp2_with fail
          go_ret2
          exact ⟨by rw [HF.out]; rfl, HN.out.2.2⟩
        | true =>
          by_cases hk' : k'.toNat = 0
          · rw [decide_eq_true hk'] at HP1
            have sk : ((k'.toNat : Int) == 0) = true := by simp; omega
            have sk' : ((k'.toNat : Int) != 0) = false := by simp; omega
            clear hk'
            have HF : Hid (p = (true, 0)) := HP1.out
            go_wp2_with fail
            go_ret2
            exact ⟨by rw [HF.out]; rfl, HN.out.2.2⟩
          · rw [decide_eq_false hk'] at HP1
            have sk : ((k'.toNat : Int) == 0) = false := by simp; omega
            have sk' : ((k'.toNat : Int) != 0) = true := by simp; omega
            clear hk'
            go_wp2_with fail
            clear a0 a1 a2 b0 b1 b2
            with_reducible refine (rnumber_any k' n' s' w3).mono ?_
            rintro e w4 ⟨rfl, hb4⟩
            replace HN := hide (HN.out.below hb4)
            clear hb4
            rw [← HNB.out]
            obtain ⟨a0, a1, a2⟩ := HN.out.1.c3
            obtain ⟨b0, b1, b2⟩ := HN.out.2.1.c3
            cases nb with
            | true =>
              have HF : Hid (p = (false, 0)) := HP1.out
              go_wp2_with fail
              go_ret2
              exact ⟨by rw [HF.out]; rfl, HN.out.2.2⟩
            | false =>
              have HF : Hid (p = (false, 270)) := HP1.out
              go_wp2_with fail
              go_ret2
              exact ⟨by rw [HF.out]; rfl, HN.out.2.2⟩
end Go.Proofs.YticljmgcgjibpaaGreatDoor

/-
  The walks of chanceryref17: Add, Sub, Mul, Neg. Conditions: numbers within 64 bits. (printed by refg.py)
-/
namespace Go.Proofs.YticljmgcgjibpaaGreatDoor
open Go.RowKit

/-- Two values' blocks and a zero value's. -/
def V3 (w wr : World) (k : UInt8) (n : Int) (s : ByteArray) (k' : UInt8) (n' : Int) (s' : ByteArray) : Prop := Blk wr w.heap.size 25 #[.int .u8 (k.toNat : Int), .int .i64 n, .string s] ∧ Blk wr (w.heap.size + 1) 25 #[.int .u8 (k'.toNat : Int), .int .i64 n', .string s'] ∧ Blk wr (w.heap.size + 1 + 1) 25 #[.int .u8 0, .int .i64 0, .string ⟨#[]⟩] ∧ Below w.heap.size w wr
theorem V3.new (w : World) (k : UInt8) (n : Int) (s : ByteArray) (k' : UInt8) (n' : Int) (s' : ByteArray) : V3 w (((w.alloc (.cells #[.int .u8 (k.toNat : Int), .int .i64 n, .string s] 25)).alloc (.cells #[.int .u8 (k'.toNat : Int), .int .i64 n', .string s'] 25)).alloc (.cells #[.int .u8 0, .int .i64 0, .string ⟨#[]⟩] 25)) k n s k' n' s' := by
  refine ⟨((Blk.new _ _ _).alloc _).alloc _, ?_, ?_, (((Below.refl _ _).alloc (Nat.le_refl _) _).alloc (by simp) _).alloc (by simp; omega) _⟩
  · have := (Blk.new (w.alloc (.cells #[.int .u8 (k.toNat : Int), .int .i64 n, .string s] 25)) 25 #[.int .u8 (k'.toNat : Int), .int .i64 n', .string s']).alloc (.cells #[.int .u8 0, .int .i64 0, .string ⟨#[]⟩] 25)
    simpa using this
  · have := Blk.new ((w.alloc (.cells #[.int .u8 (k.toNat : Int), .int .i64 n, .string s] 25)).alloc (.cells #[.int .u8 (k'.toNat : Int), .int .i64 n', .string s'] 25)) 25 #[.int .u8 0, .int .i64 0, .string ⟨#[]⟩]
    simpa using this
section
variable {w wr w' : World} {k : UInt8} {n : Int} {s : ByteArray} {k' : UInt8} {n' : Int} {s' : ByteArray}
theorem V3.size (h : V3 w wr k n s k' n' s') : w.heap.size + 1 + 1 < wr.heap.size := h.2.2.1.lt
theorem V3.below (h : V3 w wr k n s k' n' s') (hb : Below wr.heap.size wr w') : V3 w w' k n s k' n' s' := by
  have := h.size
  exact ⟨h.1.below hb (by omega), h.2.1.below hb (by omega), h.2.2.1.below hb (by omega), h.2.2.2.trans (hb.mono (by omega))⟩
theorem V3.drew (h : V3 w wr k n s k' n' s') : V3 w { wr with drawn := wr.drawn + 1 } k n s k' n' s' := ⟨h.1, h.2.1, h.2.2.1, h.2.2.2.drew⟩
end
theorem radd_lt {A B : Nat} (na nb : Bool) (hA : A ≤ 92233720368547758080000) (hB : B ≤ 92233720368547758080000) : (addOf na A nb B).2 < Big.P 5 := by
  rw [P5]
  unfold addOf
  split
  · show A + B < _; omega
  · split
    · show B - A < _; omega
    · show A - B < _; omega

theorem radd_to {na nb : Bool} {A B : Nat} {sg : Bool} {sv : Nat} (w : World) (hA : A < Big.P 5) (hB : B < Big.P 5) (h : addOf na A nb B = (sg, sv)) : Calls Tryz.prog 64 #[.agg (G6 na A), .agg (G6 nb B)] w fun e w' => e = .returned (.agg (G6 sg sv)) ∧ Below w.heap.size w w' := by
  have := radd_any na nb A B w hA hB
  rw [h] at this
  exact this
theorem addOf_to {na nb : Bool} {A B : Nat} {sg : Bool} {sv : Nat} (h : addOf na A nb B = (sg, sv)) : Val.signed sg sv = Val.signed na A + Val.signed nb B := by
  have := addOf_int na A nb B
  rw [h] at this
  exact this
theorem addOf_lt {na nb : Bool} {A B : Nat} {sg : Bool} {sv : Nat} (h : addOf na A nb B = (sg, sv)) (hA : A ≤ 92233720368547758080000) (hB : B ≤ 92233720368547758080000) : sv < Big.P 5 := by
  have := radd_lt na nb hA hB
  rw [h] at this
  exact this

set_option maxRecDepth 20000 in
set_option maxHeartbeats 6400000 in
theorem rAdd_any (k : UInt8) (n : Int) (s : ByteArray) (k' : UInt8) (n' : Int) (s' : ByteArray) (w : World) (h0 : -9223372036854775808 ≤ n) (h1 : n ≤ 9223372036854775807) (h0' : -9223372036854775808 ≤ n') (h1' : n' ≤ 9223372036854775807) :
    Calls Tryz.prog 25 #[.agg #[.int .u8 (k.toNat : Int), .int .i64 n, .string s], .agg #[.int .u8 (k'.toNat : Int), .int .i64 n', .string s']] w fun e w' => e = .returned (ansV (Val.add ⟨k, n, s⟩ ⟨k', n', s'⟩)) ∧ Below w.heap.size w w' := by
  have HN := hide (V3.new w k n s k' n' s')
  obtain ⟨p, hp⟩ : ∃ p, p = Val.add ⟨k, n, s⟩ ⟨k', n', s'⟩ := ⟨_, rfl⟩
  rw [← hp]
  unfold Val.add at hp
  obtain ⟨nu, er, hq⟩ : ∃ nu er, Val.asked ⟨k, n, s⟩ ⟨k', n', s'⟩ = (nu, er) := ⟨_, _, rfl⟩
  rw [hq] at hp
  simp only at hp
  have HQ := hide hq
  have HP := hide hp
  clear hp hq
  go_enter Tryz.func25, Tryz.ntmps25
  go_wp2_with fail
  obtain ⟨w0, hw0⟩ : ∃ x, x = ((w.alloc (.cells #[.int .u8 (k.toNat : Int), .int .i64 n, .string s] 25)).alloc (.cells #[.int .u8 (k'.toNat : Int), .int .i64 n', .string s'] 25)).alloc (.cells #[.int .u8 0, .int .i64 0, .string ⟨#[]⟩] 25) := ⟨_, rfl⟩
  rw [← hw0] at HN ⊢
  clear hw0
  with_reducible refine (asked_any k n s k' n' s' w0).mono ?_
  rintro e w1 ⟨rfl, hb1⟩
  replace HN := hide (HN.out.below hb1)
  clear hb1
  rw [HQ.out]
  unfold askV
  simp only
  by_cases hbad : er ≠ 0 ∨ nu = true
  · have HF : Hid (p = (Val.vz, er)) := HP.out.trans (if_pos hbad)
    obtain ⟨r0, r1, r2⟩ := HN.out.2.2.1.c3
    obtain ⟨f0, f1, f2⟩ := HN.out.2.2.1.f3
    have hl := HN.out.size
    by_cases he : er = 0
    · subst he
      obtain rfl : nu = true := by simpa using hbad
      clear hbad
      go_wp2_with fail
      refine bodyPost_ret (v := ansV p) (by rw [HF.out]; simp [results, Tryz.results25, go_sem, r0, r1, r2, ansV, valV, Val.vz]) rfl ⟨rfl, below_three HN.out.2.2.2 (by omega) _ _ _⟩
    · have te : ((er : Int) != 0) = true := by simp; exact he
      clear hbad he
      go_wp2_with fail
      refine bodyPost_ret (v := ansV p) (by rw [HF.out]; simp [results, Tryz.results25, go_sem, r0, r1, r2, ansV, valV, Val.vz]) rfl ⟨rfl, below_three HN.out.2.2.2 (by omega) _ _ _⟩
  · have HP1 := hide (HP.out.trans (if_neg hbad))
    obtain ⟨rfl, rfl⟩ : er = 0 ∧ nu = false := by
      constructor
      · exact Decidable.byContradiction fun h => hbad (.inl h)
      · cases nu with
        | false => rfl
        | true => exact absurd (.inr rfl) hbad
    clear hbad HP HQ
    obtain ⟨a0, a1, a2⟩ := HN.out.1.c3
    obtain ⟨b0, b1, b2⟩ := HN.out.2.1.c3

    by_cases hk : k.toNat = 2
    · have tk : ((k.toNat : Int) == 2) = true := by simp; omega
      by_cases hk' : k'.toNat = 2
      · have tk' : ((k'.toNat : Int) == 2) = true := by simp; omega
        obtain ⟨sg, sv, hsv⟩ : ∃ sg sv, addOf (decide (n < 0)) n.natAbs (decide (n' < 0)) n'.natAbs = (sg, sv) := ⟨_, _, rfl⟩
        have HL := hide (addOf_lt hsv (by omega) (by omega))
        have HF : Hid (p = Val.answer 2 (Val.signed sg sv)) := by
          show _ = _
          rw [HP1.out, if_pos ⟨hk, hk'⟩, addOf_to hsv, Val.signed_abs, Val.signed_abs]
        have HA := hide hsv
        clear hk hk' HP1 hsv
        go_wp2_with fail
        clear a0 a1 a2 b0 b1 b2
        refine wp_region_flow (fun w' => V3 w w' k n s k' n' s') 10 (by kernel_rfl) (by kernel_rfl) HN.out.drew ?_
        simp only [List.take_succ_cons, List.take_zero, List.drop_succ_cons, List.drop_zero]
        refine wpFlow_read ?_ rfl (fun w' hS => ?_) ?_
        rotate_left
        · go_simp
          rfl
        refine wpFlow_read ?_ rfl (fun w' hS => ?_) ?_
        rotate_left
        · obtain ⟨a0, a1, a2⟩ := hS.1.c3
          obtain ⟨b0, b1, b2⟩ := hS.2.1.c3
          go_simp
          rfl
        refine wpFlow_call _ _ _ rfl (fun w' hS => ?_) (fun w' (hS : (fun w' => V3 w w' k n s k' n' s') w') => ((big_any n w' h0 h1).mono fun e w2 hp => ⟨hp.1, hS.below hp.2⟩)) ?_
        · go_simp
        refine wpFlow_read ?_ rfl (fun w' hS => ?_) ?_
        rotate_left
        · go_simp
          rfl
        refine wpFlow_read ?_ rfl (fun w' hS => ?_) ?_
        rotate_left
        · obtain ⟨a0, a1, a2⟩ := hS.1.c3
          obtain ⟨b0, b1, b2⟩ := hS.2.1.c3
          go_simp
          rfl
        refine wpFlow_call _ _ _ rfl (fun w' hS => ?_) (fun w' (hS : (fun w' => V3 w w' k n s k' n' s') w') => ((big_any n' w' h0' h1').mono fun e w2 hp => ⟨hp.1, hS.below hp.2⟩)) ?_
        · go_simp
        refine wpFlow_call _ _ _ rfl (fun w' hS => ?_) (fun w' (hS : (fun w' => V3 w w' k n s k' n' s') w') => ((radd_to w' (by rw [P5]; omega) (by rw [P5]; omega) HA.out).mono fun e w2 hp => ⟨hp.1, hS.below hp.2⟩)) ?_
        · go_simp
        refine wpFlow_call _ _ _ rfl (fun w' hS => ?_) (fun w' (hS : (fun w' => V3 w w' k n s k' n' s') w') => ((answer_any 2 2 rfl sg sv w' HL.out).mono fun e w2 hp => ⟨hp.1, hS.below hp.2⟩)) ?_
        · go_simp
        unfold ansV valV
        refine wpFlow_read ?_ rfl (fun w' hS => ?_) ?_
        rotate_left
        · go_simp
          rfl
        refine wpFlow_read ?_ rfl (fun w' hS => ?_) ?_
        rotate_left
        · go_simp
          rfl
        refine wpFlow_nil fun w2 hS => ?_
        have HN := hide hS
        obtain ⟨r0, r1, r2⟩ := hS.2.2.1.c3
        obtain ⟨f0, f1, f2⟩ := hS.2.2.1.f3
        have hl := hS.size
        clear hS
        go_frame
        go_wp2_with fail
        refine bodyPost_ret (v := ansV p) (by rw [HF.out]; simp [results, Tryz.results25, go_sem, r0, r1, r2, ansV, valV]) rfl ⟨rfl, below_three HN.out.2.2.2 (by omega) _ _ _⟩
      · have tk' : ((k'.toNat : Int) == 2) = false := by simp; omega
        have hno : ¬ (k.toNat = 2 ∧ k'.toNat = 2) := fun h => hk' h.2
        clear hk hk'
        obtain ⟨sg, sv, hsv⟩ : ∃ sg sv, addOf (decide (n < 0)) (fixN k n) (decide (n' < 0)) (fixN k' n') = (sg, sv) := ⟨_, _, rfl⟩
        have HL := hide (addOf_lt hsv (fixN_lt h0 h1) (fixN_lt h0' h1'))
        have HF : Hid (p = Val.answer 3 (Val.signed sg sv)) := by
          show _ = _
          rw [HP1.out, if_neg hno, addOf_to hsv, ← signed_eq, ← signed_eq, fixN_signed ⟨k, n, s⟩, fixN_signed ⟨k', n', s'⟩]
        have HA := hide hsv
        clear hno HP1 hsv
        go_wp2_with fail
        clear a0 a1 a2 b0 b1 b2
        refine wp_region_flow (fun w' => V3 w w' k n s k' n' s') 8 (by kernel_rfl) (by kernel_rfl) HN.out.drew ?_
        simp only [List.take_succ_cons, List.take_zero, List.drop_succ_cons, List.drop_zero]
        refine wpFlow_read ?_ rfl (fun w' hS => ?_) ?_
        rotate_left
        · obtain ⟨a0, a1, a2⟩ := hS.1.c3
          obtain ⟨b0, b1, b2⟩ := hS.2.1.c3
          go_simp
          rfl
        refine wpFlow_call _ _ _ rfl (fun w' hS => ?_) (fun w' (hS : (fun w' => V3 w w' k n s k' n' s') w') => ((fixed_any k n s w' h0 h1).mono fun e w2 hp => ⟨hp.1, hS.below hp.2⟩)) ?_
        · go_simp
        refine wpFlow_read ?_ rfl (fun w' hS => ?_) ?_
        rotate_left
        · obtain ⟨a0, a1, a2⟩ := hS.1.c3
          obtain ⟨b0, b1, b2⟩ := hS.2.1.c3
          go_simp
          rfl
        refine wpFlow_call _ _ _ rfl (fun w' hS => ?_) (fun w' (hS : (fun w' => V3 w w' k n s k' n' s') w') => ((fixed_any k' n' s' w' h0' h1').mono fun e w2 hp => ⟨hp.1, hS.below hp.2⟩)) ?_
        · go_simp
        refine wpFlow_call _ _ _ rfl (fun w' hS => ?_) (fun w' (hS : (fun w' => V3 w w' k n s k' n' s') w') => ((radd_to w' (by have := fixN_lt (k := k) h0 h1; rw [P5]; omega) (by have := fixN_lt (k := k') h0' h1'; rw [P5]; omega) HA.out).mono fun e w2 hp => ⟨hp.1, hS.below hp.2⟩)) ?_
        · go_simp
        refine wpFlow_call _ _ _ rfl (fun w' hS => ?_) (fun w' (hS : (fun w' => V3 w w' k n s k' n' s') w') => ((answer_any 3 3 rfl sg sv w' HL.out).mono fun e w2 hp => ⟨hp.1, hS.below hp.2⟩)) ?_
        · go_simp
        unfold ansV valV
        refine wpFlow_read ?_ rfl (fun w' hS => ?_) ?_
        rotate_left
        · go_simp
          rfl
        refine wpFlow_read ?_ rfl (fun w' hS => ?_) ?_
        rotate_left
        · go_simp
          rfl
        refine wpFlow_nil fun w2 hS => ?_
        have HN := hide hS
        obtain ⟨r0, r1, r2⟩ := hS.2.2.1.c3
        obtain ⟨f0, f1, f2⟩ := hS.2.2.1.f3
        have hl := hS.size
        clear hS
        go_frame
        go_wp2_with fail
        refine bodyPost_ret (v := ansV p) (by rw [HF.out]; simp [results, Tryz.results25, go_sem, r0, r1, r2, ansV, valV]) rfl ⟨rfl, below_three HN.out.2.2.2 (by omega) _ _ _⟩
    · have tk : ((k.toNat : Int) == 2) = false := by simp; omega
      have hno : ¬ (k.toNat = 2 ∧ k'.toNat = 2) := fun h => hk h.1
      clear hk
      obtain ⟨sg, sv, hsv⟩ : ∃ sg sv, addOf (decide (n < 0)) (fixN k n) (decide (n' < 0)) (fixN k' n') = (sg, sv) := ⟨_, _, rfl⟩
      have HL := hide (addOf_lt hsv (fixN_lt h0 h1) (fixN_lt h0' h1'))
      have HF : Hid (p = Val.answer 3 (Val.signed sg sv)) := by
        show _ = _
        rw [HP1.out, if_neg hno, addOf_to hsv, ← signed_eq, ← signed_eq, fixN_signed ⟨k, n, s⟩, fixN_signed ⟨k', n', s'⟩]
      have HA := hide hsv
      clear hno HP1 hsv
      go_wp2_with fail
      clear a0 a1 a2 b0 b1 b2
      refine wp_region_flow (fun w' => V3 w w' k n s k' n' s') 8 (by kernel_rfl) (by kernel_rfl) HN.out.drew ?_
      simp only [List.take_succ_cons, List.take_zero, List.drop_succ_cons, List.drop_zero]
      refine wpFlow_read ?_ rfl (fun w' hS => ?_) ?_
      rotate_left
      · obtain ⟨a0, a1, a2⟩ := hS.1.c3
        obtain ⟨b0, b1, b2⟩ := hS.2.1.c3
        go_simp
        rfl
      refine wpFlow_call _ _ _ rfl (fun w' hS => ?_) (fun w' (hS : (fun w' => V3 w w' k n s k' n' s') w') => ((fixed_any k n s w' h0 h1).mono fun e w2 hp => ⟨hp.1, hS.below hp.2⟩)) ?_
      · go_simp
      refine wpFlow_read ?_ rfl (fun w' hS => ?_) ?_
      rotate_left
      · obtain ⟨a0, a1, a2⟩ := hS.1.c3
        obtain ⟨b0, b1, b2⟩ := hS.2.1.c3
        go_simp
        rfl
      refine wpFlow_call _ _ _ rfl (fun w' hS => ?_) (fun w' (hS : (fun w' => V3 w w' k n s k' n' s') w') => ((fixed_any k' n' s' w' h0' h1').mono fun e w2 hp => ⟨hp.1, hS.below hp.2⟩)) ?_
      · go_simp
      refine wpFlow_call _ _ _ rfl (fun w' hS => ?_) (fun w' (hS : (fun w' => V3 w w' k n s k' n' s') w') => ((radd_to w' (by have := fixN_lt (k := k) h0 h1; rw [P5]; omega) (by have := fixN_lt (k := k') h0' h1'; rw [P5]; omega) HA.out).mono fun e w2 hp => ⟨hp.1, hS.below hp.2⟩)) ?_
      · go_simp
      refine wpFlow_call _ _ _ rfl (fun w' hS => ?_) (fun w' (hS : (fun w' => V3 w w' k n s k' n' s') w') => ((answer_any 3 3 rfl sg sv w' HL.out).mono fun e w2 hp => ⟨hp.1, hS.below hp.2⟩)) ?_
      · go_simp
      unfold ansV valV
      refine wpFlow_read ?_ rfl (fun w' hS => ?_) ?_
      rotate_left
      · go_simp
        rfl
      refine wpFlow_read ?_ rfl (fun w' hS => ?_) ?_
      rotate_left
      · go_simp
        rfl
      refine wpFlow_nil fun w2 hS => ?_
      have HN := hide hS
      obtain ⟨r0, r1, r2⟩ := hS.2.2.1.c3
      obtain ⟨f0, f1, f2⟩ := hS.2.2.1.f3
      have hl := hS.size
      clear hS
      go_frame
      go_wp2_with fail
      refine bodyPost_ret (v := ansV p) (by rw [HF.out]; simp [results, Tryz.results25, go_sem, r0, r1, r2, ansV, valV]) rfl ⟨rfl, below_three HN.out.2.2.2 (by omega) _ _ _⟩
end Go.Proofs.YticljmgcgjibpaaGreatDoor
