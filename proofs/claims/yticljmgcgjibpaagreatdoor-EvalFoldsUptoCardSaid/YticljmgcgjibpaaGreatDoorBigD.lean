/-
  The walk of chanceryref17.add: the sum of two signed whole numbers. Conditions: numbers below 2^160, and their sum.
-/
import Derived.Test.YticljmgcgjibpaaGreatDoorBigT
import Derived.RegionCalls
import Derived.Deep.CutBlock
import Derived.Deep.RegionHeld3
namespace Go.Proofs.YticljmgcgjibpaaGreatDoor
open Go.RowKit

theorem undrew {w w2 : World} (h : Below w.drew.heap.size w.drew w2) : Below w.heap.size w w2 := ⟨h.os, h.tape, h.output, h.size, h.block⟩
/-- The sum of signed sizes: its sign and its size. -/
def addOf (na : Bool) (A : Nat) (nb : Bool) (B : Nat) : Bool × Nat := if na = nb then (na, A + B) else if A < B then (nb, B - A) else (na, A - B)
theorem addOf_int (na : Bool) (A : Nat) (nb : Bool) (B : Nat) : signed (addOf na A nb B).1 (addOf na A nb B).2 = signed na A + signed nb B := by
  unfold addOf signed
  by_cases h : A < B <;> cases na <;> cases nb <;> simp [h] <;> omega
/-- The three blocks of add. -/
def BA (w wr : World) (na : Bool) (A : Nat) (nb : Bool) (B : Nat) : Prop := Blk wr w.heap.size 82 (G6 na A) ∧ Blk wr (w.heap.size + 1) 82 (G6 nb B) ∧ Blk wr (w.heap.size + 1 + 1) 82 (G6 false 0) ∧ Below w.heap.size w wr
theorem BA.new (w : World) (na : Bool) (A : Nat) (nb : Bool) (B : Nat) : BA w (((w.alloc (.cells (G6 na A) 82)).alloc (.cells (G6 nb B) 82)).alloc (.cells (G6 false 0) 82)) na A nb B := by
  refine ⟨((Blk.new _ _ _).alloc _).alloc _, ?_, ?_, ?_⟩
  · have := (Blk.new (w.alloc (.cells (G6 na A) 82)) 82 (G6 nb B)).alloc (.cells (G6 false 0) 82)
    simpa using this
  · have := Blk.new ((w.alloc (.cells (G6 na A) 82)).alloc (.cells (G6 nb B) 82)) 82 (G6 false 0)
    simpa using this
  · exact (((Below.refl _ _).alloc (Nat.le_refl _) _).alloc (by simp) _).alloc (by simp; omega) _
theorem BA.size {w wr : World} {na nb : Bool} {A B : Nat} (h : BA w wr na A nb B) : w.heap.size + 1 + 1 < wr.heap.size := h.2.2.1.lt
theorem BA.below {w wr w' : World} {na nb : Bool} {A B : Nat} (h : BA w wr na A nb B) (hb : Below wr.heap.size wr w') : BA w w' na A nb B := by
  have := h.size
  exact ⟨h.1.below hb (by omega), h.2.1.below hb (by omega), h.2.2.1.below hb (by omega), h.2.2.2.trans (hb.mono (by omega))⟩
theorem Blk.c6 {w : World} {g : Nat} {t : TypeId} {n : Bool} {V : Nat} (h : Blk w g t (G6 n V)) : w.cell? ⟨g, 0, none⟩ = some (.bool n) ∧ w.cell? ⟨g, 1, none⟩ = some (.int .u64 ((Big.dig V 0 : Nat) : Int)) ∧ w.cell? ⟨g, 2, none⟩ = some (.int .u64 ((Big.dig V 1 : Nat) : Int)) ∧ w.cell? ⟨g, 3, none⟩ = some (.int .u64 ((Big.dig V 2 : Nat) : Int)) ∧ w.cell? ⟨g, 4, none⟩ = some (.int .u64 ((Big.dig V 3 : Nat) : Int)) ∧ w.cell? ⟨g, 5, none⟩ = some (.int .u64 ((Big.dig V 4 : Nat) : Int)) :=
  ⟨h.cell 0, h.cell 1, h.cell 2, h.cell 3, h.cell 4, h.cell 5⟩
theorem Blk.f6 {w : World} {g : Nat} {t : TypeId} {cs : Array Value} (h : Blk w g t cs) : w.frozen? ⟨g, 0, none⟩ = false ∧ w.frozen? ⟨g, 1, none⟩ = false ∧ w.frozen? ⟨g, 2, none⟩ = false ∧ w.frozen? ⟨g, 3, none⟩ = false ∧ w.frozen? ⟨g, 4, none⟩ = false ∧ w.frozen? ⟨g, 5, none⟩ = false :=
  ⟨h.frozen 0, h.frozen 1, h.frozen 2, h.frozen 3, h.frozen 4, h.frozen 5⟩
theorem plus_at (A B : Nat) (w : World) : Calls Tryz.prog 68 #[.agg #[.int .u64 ((Big.dig A 0 : Nat) : Int), .int .u64 ((Big.dig A 1 : Nat) : Int), .int .u64 ((Big.dig A 2 : Nat) : Int), .int .u64 ((Big.dig A 3 : Nat) : Int), .int .u64 ((Big.dig A 4 : Nat) : Int)], .agg #[.int .u64 ((Big.dig B 0 : Nat) : Int), .int .u64 ((Big.dig B 1 : Nat) : Int), .int .u64 ((Big.dig B 2 : Nat) : Int), .int .u64 ((Big.dig B 3 : Nat) : Int), .int .u64 ((Big.dig B 4 : Nat) : Int)]] w fun e w' => e = .returned (.agg #[.int .u64 ((Big.dig (A + B) 0 : Nat) : Int), .int .u64 ((Big.dig (A + B) 1 : Nat) : Int), .int .u64 ((Big.dig (A + B) 2 : Nat) : Int), .int .u64 ((Big.dig (A + B) 3 : Nat) : Int), .int .u64 ((Big.dig (A + B) 4 : Nat) : Int)]) ∧ Below w.heap.size w w' := plus_any A B w
theorem minus_at (A B : Nat) (w : World) (hAB : B ≤ A) : Calls Tryz.prog 89 #[.agg #[.int .u64 ((Big.dig A 0 : Nat) : Int), .int .u64 ((Big.dig A 1 : Nat) : Int), .int .u64 ((Big.dig A 2 : Nat) : Int), .int .u64 ((Big.dig A 3 : Nat) : Int), .int .u64 ((Big.dig A 4 : Nat) : Int)], .agg #[.int .u64 ((Big.dig B 0 : Nat) : Int), .int .u64 ((Big.dig B 1 : Nat) : Int), .int .u64 ((Big.dig B 2 : Nat) : Int), .int .u64 ((Big.dig B 3 : Nat) : Int), .int .u64 ((Big.dig B 4 : Nat) : Int)]] w fun e w' => e = .returned (.agg #[.int .u64 ((Big.dig (A - B) 0 : Nat) : Int), .int .u64 ((Big.dig (A - B) 1 : Nat) : Int), .int .u64 ((Big.dig (A - B) 2 : Nat) : Int), .int .u64 ((Big.dig (A - B) 3 : Nat) : Int), .int .u64 ((Big.dig (A - B) 4 : Nat) : Int)]) ∧ Below w.heap.size w w' := minus_any A B w hAB
theorem under_at (A B : Nat) (w : World) (hA : A < Big.P 5) (hB : B < Big.P 5) : Calls Tryz.prog 88 #[.agg #[.int .u64 ((Big.dig A 0 : Nat) : Int), .int .u64 ((Big.dig A 1 : Nat) : Int), .int .u64 ((Big.dig A 2 : Nat) : Int), .int .u64 ((Big.dig A 3 : Nat) : Int), .int .u64 ((Big.dig A 4 : Nat) : Int)], .agg #[.int .u64 ((Big.dig B 0 : Nat) : Int), .int .u64 ((Big.dig B 1 : Nat) : Int), .int .u64 ((Big.dig B 2 : Nat) : Int), .int .u64 ((Big.dig B 3 : Nat) : Int), .int .u64 ((Big.dig B 4 : Nat) : Int)]] w fun e w' => e = .returned (.bool (decide (A < B))) ∧ Below w.heap.size w w' := under_any A B w hA hB

set_option maxRecDepth 20000 in
set_option maxHeartbeats 6400000 in
theorem radd_any (na nb : Bool) (A B : Nat) (w : World) (hA : A < Big.P 5) (hB : B < Big.P 5) : Calls Tryz.prog 64 #[.agg (G6 na A), .agg (G6 nb B)] w fun e w' => e = .returned (.agg (G6 (addOf na A nb B).1 (addOf na A nb B).2)) ∧ Below w.heap.size w w' := by
  obtain ⟨n, V, hnV⟩ : ∃ n V, addOf na A nb B = (n, V) := ⟨_, _, rfl⟩
  rw [hnV]
  unfold addOf at hnV
  have HV := hide hnV
  clear hnV
  have HN0 := BA.new w na A nb B
  have HZ := G6_zero
  rw [HZ] at HN0
  have HN := hide HN0
  clear HN0 HZ
  go_enter Tryz.func64, Tryz.ntmps64
  go_upto_region 1 with fail
  obtain ⟨w0, hw0⟩ : ∃ x, x = ((w.alloc (.cells (G6 na A) 82)).alloc (.cells (G6 nb B) 82)).alloc (.cells #[.bool false, .int .u64 0, .int .u64 0, .int .u64 0, .int .u64 0, .int .u64 0] 82) := ⟨_, rfl⟩
  rw [← hw0] at HN ⊢
  have HB0 : Hid (BA w w0 na A nb B) := HN.out
  clear hw0 HN
  obtain ⟨a0, a1, a2, a3, a4, a5⟩ := HB0.out.1.c6
  obtain ⟨b0, b1, b2, b3, b4, b5⟩ := HB0.out.2.1.c6
  by_cases hs : na = nb
  · subst hs
    have HV2 := HV.out
    rw [if_pos rfl] at HV2
    injection HV2 with e1 e2
    subst e1 e2
    have t1 : (na == na) = true := by simp
    go_wp2_with fail
    go_region_with (go_at_call 68; refine (plus_at A B _).mono ?_; rintro e w2 ⟨rfl, hb2⟩; have HB2 := hide (HB0.out.below (undrew hb2)); clear hb2; have c0 := HB2.out.1.c6.1; obtain ⟨r0, r1, r2, r3, r4, r5⟩ := HB2.out.2.2.1.c6; obtain ⟨f0, f1, f2, f3, f4, f5⟩ := HB2.out.2.2.1.f6; have hl := HB2.out.size)
    all_goals
      go_wp2_with fail
      refine bodyPost_ret (v := .agg (G6 na (A + B))) (by simp [results, Tryz.results64, go_sem, r0, r1, r2, r3, r4, r5, G6]) rfl ⟨rfl, below_six HB2.out.2.2.2 (by omega) _ _ _ _ _ _⟩
  · have t1 : (na == nb) = false := by simpa using hs
    have HV2 := HV.out
    rw [if_neg hs] at HV2
    have HV3 := hide HV2
    clear HV2 hs
    go_wp2_with fail
    with_reducible refine (under_at A B w0 hA hB).mono ?_
    rintro e w1 ⟨rfl, hb1⟩
    replace HB0 := hide (HB0.out.below hb1)
    clear hb1 a0 a1 a2 a3 a4 a5 b0 b1 b2 b3 b4 b5
    obtain ⟨a0, a1, a2, a3, a4, a5⟩ := HB0.out.1.c6
    obtain ⟨b0, b1, b2, b3, b4, b5⟩ := HB0.out.2.1.c6
    by_cases hlt : A < B
    · have HV2 := HV3.out
      rw [if_pos hlt] at HV2
      injection HV2 with e1 e2
      subst e1 e2
      rw [decide_eq_true hlt]
      go_wp2_with fail
      go_region_with (go_at_call 89; refine (minus_at B A _ (Nat.le_of_lt hlt)).mono ?_; rintro e w2 ⟨rfl, hb2⟩; have HB2 := hide (HB0.out.below (undrew hb2)); clear hb2; have c0 := HB2.out.2.1.c6.1; obtain ⟨r0, r1, r2, r3, r4, r5⟩ := HB2.out.2.2.1.c6; obtain ⟨f0, f1, f2, f3, f4, f5⟩ := HB2.out.2.2.1.f6; have hl := HB2.out.size)
      all_goals
        go_wp2_with fail
        refine bodyPost_ret (v := .agg (G6 nb (B - A))) (by simp [results, Tryz.results64, go_sem, r0, r1, r2, r3, r4, r5, G6]) rfl ⟨rfl, below_six HB2.out.2.2.2 (by omega) _ _ _ _ _ _⟩
    · have HV2 := HV3.out
      rw [if_neg hlt] at HV2
      injection HV2 with e1 e2
      subst e1 e2
      rw [decide_eq_false hlt]
      go_wp2_with fail
      go_region_with (go_at_call 89; refine (minus_at A B _ (Nat.le_of_not_lt hlt)).mono ?_; rintro e w2 ⟨rfl, hb2⟩; have HB2 := hide (HB0.out.below (undrew hb2)); clear hb2; have c0 := HB2.out.1.c6.1; obtain ⟨r0, r1, r2, r3, r4, r5⟩ := HB2.out.2.2.1.c6; obtain ⟨f0, f1, f2, f3, f4, f5⟩ := HB2.out.2.2.1.f6; have hl := HB2.out.size)
      all_goals
        go_wp2_with fail
        refine bodyPost_ret (v := .agg (G6 na (A - B))) (by simp [results, Tryz.results64, go_sem, r0, r1, r2, r3, r4, r5, G6]) rfl ⟨rfl, below_six HB2.out.2.2.2 (by omega) _ _ _ _ _ _⟩
end Go.Proofs.YticljmgcgjibpaaGreatDoor
