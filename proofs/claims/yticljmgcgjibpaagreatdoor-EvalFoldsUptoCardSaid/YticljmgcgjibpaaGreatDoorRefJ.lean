/-
  The walk of chanceryref17.Mul. Conditions: numbers within 64 bits. (printed by refmul.py)
-/
import Derived.Test.YticljmgcgjibpaaGreatDoorRefI
namespace Go.Proofs.YticljmgcgjibpaaGreatDoor
open Go.RowKit

/-- What 'big' tells, and 'times' of these two. -/
def mulT (c : Value) : Told := fun f args v => bigT f args v ∨ (f = 66 ∧ v = c)
theorem mulT_one (c : Value) : (mulT c).One := by
  rintro f args v v' (h | ⟨h1, h2⟩) (h' | ⟨h1', h2'⟩)
  · exact bigT_one f args v v' h h'
  · exact absurd (h.1.symm.trans h1') (by decide)
  · exact absurd (h'.1.symm.trans h1) (by decide)
  · rw [h2, h2']
theorem less_at (A : Nat) (w : World) (hA : A < Big.P 5) : Calls Tryz.prog 67 #[.agg #[.int .u64 ((Big.dig A 0 : Nat) : Int), .int .u64 ((Big.dig A 1 : Nat) : Int), .int .u64 ((Big.dig A 2 : Nat) : Int), .int .u64 ((Big.dig A 3 : Nat) : Int), .int .u64 ((Big.dig A 4 : Nat) : Int)]] w fun e w' => e = .returned (.tuple #[.agg #[.int .u64 ((Big.dig (A / 10000) 0 : Nat) : Int), .int .u64 ((Big.dig (A / 10000) 1 : Nat) : Int), .int .u64 ((Big.dig (A / 10000) 2 : Nat) : Int), .int .u64 ((Big.dig (A / 10000) 3 : Nat) : Int), .int .u64 ((Big.dig (A / 10000) 4 : Nat) : Int)], .int .u64 ((A % 10000 : Nat) : Int)]) ∧ Below w.heap.size w w' := less_any A w hA
theorem plus_one (A : Nat) (w : World) : Calls Tryz.prog 68 #[.agg #[.int .u64 ((Big.dig A 0 : Nat) : Int), .int .u64 ((Big.dig A 1 : Nat) : Int), .int .u64 ((Big.dig A 2 : Nat) : Int), .int .u64 ((Big.dig A 3 : Nat) : Int), .int .u64 ((Big.dig A 4 : Nat) : Int)], .agg #[.int .u64 1, .int .u64 0, .int .u64 0, .int .u64 0, .int .u64 0]] w fun e w' => e = .returned (.agg #[.int .u64 ((Big.dig (A + 1) 0 : Nat) : Int), .int .u64 ((Big.dig (A + 1) 1 : Nat) : Int), .int .u64 ((Big.dig (A + 1) 2 : Nat) : Int), .int .u64 ((Big.dig (A + 1) 3 : Nat) : Int), .int .u64 ((Big.dig (A + 1) 4 : Nat) : Int)]) ∧ Below w.heap.size w w' := plus_any A 1 w
/-- The block of x beside the values'. -/
def XB (w wr : World) (k : UInt8) (n : Int) (s : ByteArray) (k' : UInt8) (n' : Int) (s' : ByteArray) (g : Nat) (cs : Array Value) : Prop := V3 w wr k n s k' n' s' ∧ Blk wr g 82 cs ∧ w.heap.size + 1 + 1 < g
section
variable {w wr w' : World} {k : UInt8} {n : Int} {s : ByteArray} {k' : UInt8} {n' : Int} {s' : ByteArray} {g : Nat} {cs : Array Value}
theorem XB.below (h : XB w wr k n s k' n' s' g cs) (hb : Below wr.heap.size wr w') : XB w w' k n s k' n' s' g cs := ⟨h.1.below hb, h.2.1.below hb h.2.1.lt, h.2.2⟩
theorem XB.alloc (h : XB w wr k n s k' n' s' g cs) (o : Obj) : XB w (wr.alloc o) k n s k' n' s' g cs := h.below ((Below.refl _ _).alloc (Nat.le_refl _) o)
end
theorem V3.fiveFar {w wr : World} {g : Nat} {k : UInt8} {n : Int} {s : ByteArray} {k' : UInt8} {n' : Int} {s' : ByteArray} (h : V3 w wr k n s k' n' s') (hg : w.heap.size + 1 + 1 < g) (u0 u1 u2 u3 u4 : Value) : V3 w (((((wr.setCell ⟨g, 0, none⟩ u0).setCell ⟨g, 1, none⟩ u1).setCell ⟨g, 2, none⟩ u2).setCell ⟨g, 3, none⟩ u3).setCell ⟨g, 4, none⟩ u4) k n s k' n' s' :=
  ((((h.put1 hg 0 _).put1 hg 1 _).put1 hg 2 _).put1 hg 3 _).put1 hg 4 _
theorem par_dig (Q : Nat) : Big.dig Q 0 % 2 = Q % 2 := by
  show Q / 1 % 4294967296 % 2 = _
  omega
theorem mul_lt {n n' : Int} (h0 : -9223372036854775808 ≤ n) (h1 : n ≤ 9223372036854775807) (h0' : -9223372036854775808 ≤ n') (h1' : n' ≤ 9223372036854775807) : n.natAbs * n'.natAbs ≤ 85070591730234615865843651857942052864 := by
  have := Nat.mul_le_mul (show n.natAbs ≤ 9223372036854775808 by omega) (show n'.natAbs ≤ 9223372036854775808 by omega)
  omega

set_option maxRecDepth 20000 in
set_option maxHeartbeats 6400000 in
theorem rMul_any (k : UInt8) (n : Int) (s : ByteArray) (k' : UInt8) (n' : Int) (s' : ByteArray) (w : World) (h0 : -9223372036854775808 ≤ n) (h1 : n ≤ 9223372036854775807) (h0' : -9223372036854775808 ≤ n') (h1' : n' ≤ 9223372036854775807) :
    Calls Tryz.prog 27 #[.agg #[.int .u8 (k.toNat : Int), .int .i64 n, .string s], .agg #[.int .u8 (k'.toNat : Int), .int .i64 n', .string s']] w fun e w' => e = .returned (ansV (Val.mul ⟨k, n, s⟩ ⟨k', n', s'⟩)) ∧ Below w.heap.size w w' := by
  have HN := hide (V3.new w k n s k' n' s')
  obtain ⟨p, hp⟩ : ∃ p, p = Val.mul ⟨k, n, s⟩ ⟨k', n', s'⟩ := ⟨_, rfl⟩
  rw [← hp]
  unfold Val.mul at hp
  obtain ⟨nu, er, hq⟩ : ∃ nu er, Val.asked ⟨k, n, s⟩ ⟨k', n', s'⟩ = (nu, er) := ⟨_, _, rfl⟩
  rw [hq] at hp
  simp only at hp
  have HQ := hide hq
  have HP := hide hp
  clear hp hq
  go_enter Tryz.func27, Tryz.ntmps27
  go_wp2_with fail
  obtain ⟨w0, hw0⟩ : ∃ x, x = ((w.alloc (.cells #[.int .u8 (k.toNat : Int), .int .i64 n, .string s] 25)).alloc (.cells #[.int .u8 (k'.toNat : Int), .int .i64 n', .string s'] 25)).alloc (.cells #[.int .u8 0, .int .i64 0, .string ⟨#[]⟩] 25) := ⟨_, rfl⟩
  rw [← hw0] at HN ⊢
  clear hw0
  with_reducible refine (asked_any k n s k' n' s' w0).mono ?_
  rintro e w1 ⟨rfl, hb1⟩
  replace HN := hide (HN.out.below hb1)
  clear hb1
  rw [HQ.out]
  unfold askV
  simp only
  by_cases hbad : er ≠ 0 ∨ nu = true
  · have HF : Hid (p = (Val.vz, er)) := HP.out.trans (if_pos hbad)
    obtain ⟨r0, r1, r2⟩ := HN.out.2.2.1.c3
    obtain ⟨f0, f1, f2⟩ := HN.out.2.2.1.f3
    have hl := HN.out.size
    by_cases he : er = 0
    · subst he
      obtain rfl : nu = true := by simpa using hbad
      clear hbad
      go_wp2_with fail
      refine bodyPost_ret (v := ansV p) (by rw [HF.out]; simp [results, Tryz.results27, go_sem, r0, r1, r2, ansV, valV, Val.vz]) rfl ⟨rfl, below_three HN.out.2.2.2 (by omega) _ _ _⟩
    · have te : ((er : Int) != 0) = true := by simp; exact he
      clear hbad he
      go_wp2_with fail
      refine bodyPost_ret (v := ansV p) (by rw [HF.out]; simp [results, Tryz.results27, go_sem, r0, r1, r2, ansV, valV, Val.vz]) rfl ⟨rfl, below_three HN.out.2.2.2 (by omega) _ _ _⟩
  · have HP1 := hide (HP.out.trans (if_neg hbad))
    obtain ⟨rfl, rfl⟩ : er = 0 ∧ nu = false := by
      constructor
      · exact Decidable.byContradiction fun h => hbad (.inl h)
      · cases nu with
        | false => rfl
        | true => exact absurd (.inr rfl) hbad
    clear hbad HP HQ
    obtain ⟨a0, a1, a2⟩ := HN.out.1.c3
    obtain ⟨b0, b1, b2⟩ := HN.out.2.1.c3

    go_wp2_with fail
    clear a0 a1 a2 b0 b1 b2
    refine wp_region_grow (mulT (.agg (G6 (decide (n < 0) != decide (n' < 0)) (n.natAbs * n'.natAbs)))) (fun w' => V3 w w' k n s k' n' s') (w.heap.size + 1 + 1 + 1) 8 (mulT_one _) (V3.lives w k n s k' n' s') (by kernel_rfl) (by kernel_rfl) HN.out.drew (by have := HN.out.size; omega) ?_
    simp only [List.take_succ_cons, List.take_zero, List.drop_succ_cons, List.drop_zero]
    refine wpGrow_read ?_ rfl (fun w' hS => ?_) ?_
    rotate_left
    · go_simp
      rfl
    refine wpGrow_read ?_ rfl (fun w' hS => ?_) ?_
    rotate_left
    · obtain ⟨a0, a1, a2⟩ := hS.1.c3
      obtain ⟨b0, b1, b2⟩ := hS.2.1.c3
      go_simp
      rfl
    refine wpGrow_call _ _ _ rfl (fun w' hS => ?_) (.inl ⟨rfl, n, rfl, rfl⟩) (fun w' _ => big_any n w' h0 h1) ?_
    · go_simp
    refine wpGrow_read ?_ rfl (fun w' hS => ?_) ?_
    rotate_left
    · go_simp
      rfl
    refine wpGrow_read ?_ rfl (fun w' hS => ?_) ?_
    rotate_left
    · obtain ⟨a0, a1, a2⟩ := hS.1.c3
      obtain ⟨b0, b1, b2⟩ := hS.2.1.c3
      go_simp
      rfl
    refine wpGrow_call _ _ _ rfl (fun w' hS => ?_) (.inl ⟨rfl, n', rfl, rfl⟩) (fun w' _ => big_any n' w' h0' h1') ?_
    · go_simp
    refine wpGrow_call _ _ _ rfl (fun w' hS => ?_) (.inr ⟨rfl, rfl⟩) (fun w' _ => rtimes_any (decide (n < 0)) (decide (n' < 0)) n.natAbs n'.natAbs w' (by rw [P5]; omega)) ?_
    · go_simp
    refine wpGrow_make none (.cells #[.bool false, .int .u64 0, .int .u64 0, .int .u64 0, .int .u64 0, .int .u64 0] 82) rfl (fun w' hS => ?_) fun g => ?_
    · go_simp
      rfl
    refine wpGrow_nil fun w4 hG => ?_
    obtain ⟨l7, h7⟩ := hG.lies 7 g _ rfl
    have K7 : Blk w4 g 82 #[.bool false, .int .u64 0, .int .u64 0, .int .u64 0, .int .u64 0, .int .u64 0] := l7
    have HV := hide hG.s
    have x0 : w4.cell? ⟨g, 0, none⟩ = some (.bool false) := K7.cell 0
    have x1 : w4.cell? ⟨g, 1, none⟩ = some (.int .u64 0) := K7.cell 1
    have x2 : w4.cell? ⟨g, 2, none⟩ = some (.int .u64 0) := K7.cell 2
    have x3 : w4.cell? ⟨g, 3, none⟩ = some (.int .u64 0) := K7.cell 3
    have x4 : w4.cell? ⟨g, 4, none⟩ = some (.int .u64 0) := K7.cell 4
    have x5 : w4.cell? ⟨g, 5, none⟩ = some (.int .u64 0) := K7.cell 5
    obtain ⟨p0, p1, p2, p3, p4, p5⟩ := K7.f6
    have HK7 := hide K7
    obtain ⟨X, hX⟩ : ∃ X, X = (n.natAbs * n'.natAbs) := ⟨_, rfl⟩
    obtain ⟨sg, hsg⟩ : ∃ b, b = (decide (n < 0) != decide (n' < 0)) := ⟨_, rfl⟩
    rw [← hX, ← hsg]
    have HX := hide hX
    have HSg := hide hsg
    have hXl := mul_lt h0 h1 h0' h1'
    rw [← hX] at hXl
    clear l7 K7 hG hX hsg
    unfold shapeV
    go_frame
    unfold G6
    go_upto_region 5 with fail
    obtain ⟨w5, hw5⟩ : ∃ x, x = ((((((w4.setCell ⟨g, 0, none⟩ (.bool sg)).setCell ⟨g, 1, none⟩ (.int .u64 ((Big.dig X 0 : Nat) : Int))).setCell ⟨g, 2, none⟩ (.int .u64 ((Big.dig X 1 : Nat) : Int))).setCell ⟨g, 3, none⟩ (.int .u64 ((Big.dig X 2 : Nat) : Int))).setCell ⟨g, 4, none⟩ (.int .u64 ((Big.dig X 3 : Nat) : Int))).setCell ⟨g, 5, none⟩ (.int .u64 ((Big.dig X 4 : Nat) : Int))) := ⟨_, rfl⟩
    rw [← hw5]
    have HB5 : Hid (XB w w5 k n s k' n' s' g #[.bool sg, .int .u64 ((Big.dig X 0 : Nat) : Int), .int .u64 ((Big.dig X 1 : Nat) : Int), .int .u64 ((Big.dig X 2 : Nat) : Int), .int .u64 ((Big.dig X 3 : Nat) : Int), .int .u64 ((Big.dig X 4 : Nat) : Int)]) := by
      rw [hw5]
      exact ⟨HV.out.sixFar (by omega) _ _ _ _ _ _, HK7.out.six _ _ _ _ _ _, by omega⟩
    clear hw5 HV HK7 x0 x1 x2 x3 x4 x5 p0 p1 p2 p3 p4 p5 h7
    have HPr : Hid (Val.signed sg X = n * n') := by show _ = _; rw [HSg.out, HX.out]; exact Val.signed_mul n n'
    obtain ⟨a0, a1, a2⟩ := HB5.out.1.1.c3
    obtain ⟨b0, b1, b2⟩ := HB5.out.1.2.1.c3
    obtain ⟨x0, x1, x2, x3, x4, x5⟩ := Blk.c6 (n := sg) (V := X) HB5.out.2.1
    have hXP : X < Big.P 5 := by rw [P5]; omega
    have HXP := hide hXP
    clear hXP
    by_cases hkk : k = k'
    · have t1 : ((k.toNat : Int) != (k'.toNat : Int)) = false := by rw [hkk]; simp
      by_cases hk : k.toNat = 2
      · have t2 : ((k.toNat : Int) == 2) = true := by simp; omega
        have HF : Hid (p = Val.answer 2 (Val.signed sg X)) := by
          show _ = _
          rw [HP1.out, if_neg (fun h => h hkk), if_pos hk, HPr.out]
        clear hk hkk
        go_wp2_with fail
        with_reducible refine (answer_at 2 2 rfl sg X w5 HXP.out).mono ?_
        rintro e wz ⟨rfl, hbz⟩
        have HVz := hide (HB5.out.1.below hbz)
        clear hbz
        rw [← HF.out]
        obtain ⟨pv, pe⟩ := p
        unfold ansV valV
        simp only
        obtain ⟨r0, r1, r2⟩ := HVz.out.2.2.1.c3
        obtain ⟨f0, f1, f2⟩ := HVz.out.2.2.1.f3
        have hl := HVz.out.size
        go_wp2_with fail
        refine bodyPost_ret (v := .tuple #[.agg #[.int .u8 (pv.k.toNat : Int), .int .i64 pv.n, .string pv.s], .int .i64 ((pe : Nat) : Int)]) (by simp [results, Tryz.results27, go_sem, r0, r1, r2]) rfl ⟨rfl, below_three HVz.out.2.2.2 (by omega) _ _ _⟩
      · have t2 : ((k.toNat : Int) == 2) = false := by simp; omega
        have HF0 : Hid (p = Val.answer 3 (Val.signed sg (Val.halfEven X))) := by
          show _ = _
          rw [HP1.out, if_neg (fun h => h hkk), if_neg hk, HSg.out, HX.out]
        clear hk hkk HP1
        go_wp2_with fail
        with_reducible refine (less_at X w5 HXP.out).mono ?_
        rintro e w6 ⟨rfl, hb6⟩
        replace HB5 := hide (HB5.out.below hb6)
        clear hb6 a0 a1 a2 b0 b1 b2 x0 x1 x2 x3 x4 x5
        obtain ⟨Q, hQ⟩ : ∃ Q, Q = X / 10000 := ⟨_, rfl⟩
        obtain ⟨R, hR⟩ : ∃ R, R = X % 10000 := ⟨_, rfl⟩
        have hRl : R < 10000 := by rw [hR]; omega
        have hQl : Q ≤ 85070591730234615865843651857942052864 := by omega
        have HHe : Hid (Val.halfEven X = if 5000 < R ∨ (R = 5000 ∧ Q % 2 = 1) then Q + 1 else Q) := by
          show _ = _
          rw [hQ, hR]
          rfl
        rw [← hQ, ← hR]
        have hpar := par_dig Q
        have hdl := Big.dig_lt Q 0
        rw [show Big.M = 4294967296 from rfl] at hdl
        have HPar := hide hpar
        have hxl := HB5.out.2.1.lt
        have hvl := HB5.out.1.size
        have x0 : w6.cell? ⟨g, 0, none⟩ = some (.bool sg) := HB5.out.2.1.cell 0
        clear hQ hR hpar
        by_cases hup : 5000 < R ∨ (R = 5000 ∧ Q % 2 = 1)
        · have HF : Hid (p = Val.answer 3 (Val.signed sg (Q + 1))) := by
            show _ = _
            rw [HF0.out, HHe.out, if_pos hup]
          by_cases hbig : 5000 < R
          · have t3 : decide ((5000 : Int) < (R : Int)) = true := by simp; omega
            clear hup hbig
            go_wp2_with fail
            with_reducible refine (plus_one Q _).mono ?_
            rintro e w7 ⟨rfl, hb7⟩
            have HK := hide ((Blk.new w6 80 #[.int .u64 ((Big.dig Q 0 : Nat) : Int), .int .u64 ((Big.dig Q 1 : Nat) : Int), .int .u64 ((Big.dig Q 2 : Nat) : Int), .int .u64 ((Big.dig Q 3 : Nat) : Int), .int .u64 ((Big.dig Q 4 : Nat) : Int)]).below hb7 (by simp))
            have HB7 := hide ((HB5.out.alloc _).below hb7)
            clear hb7 x0
            obtain ⟨y0, y1, y2, y3, y4⟩ := Blk.c5 (f := Big.dig Q) HK.out
            obtain ⟨q0, q1, q2, q3, q4⟩ := HK.out.f5
            have x0 : w7.cell? ⟨g, 0, none⟩ = some (.bool sg) := HB7.out.2.1.cell 0
            have hne : g ≠ w6.heap.size := by omega
            have hne' : w6.heap.size ≠ g := by omega
            go_wp2_with fail
            with_reducible refine (answer_at 3 3 rfl sg (Q + 1) _ (by rw [P5]; omega)).mono ?_
            rintro e wz ⟨rfl, hbz⟩
            have HVz := hide ((HB7.out.1.fiveFar (by omega) _ _ _ _ _).below hbz)
            clear hbz x0 y0 y1 y2 y3 y4 q0 q1 q2 q3 q4
            rw [← HF.out]
            obtain ⟨pv, pe⟩ := p
            unfold ansV valV
            simp only
            obtain ⟨r0, r1, r2⟩ := HVz.out.2.2.1.c3
            obtain ⟨f0, f1, f2⟩ := HVz.out.2.2.1.f3
            have hl := HVz.out.size
            go_wp2_with fail
            refine bodyPost_ret (v := .tuple #[.agg #[.int .u8 (pv.k.toNat : Int), .int .i64 pv.n, .string pv.s], .int .i64 ((pe : Nat) : Int)]) (by simp [results, Tryz.results27, go_sem, r0, r1, r2]) rfl ⟨rfl, below_three HVz.out.2.2.2 (by omega) _ _ _⟩
          · have t3 : decide ((5000 : Int) < (R : Int)) = false := by simp; omega
            have t4 : ((R : Int) == 5000) = true := by simp; omega
            have t5 : (((Big.dig Q 0 : Nat) : Int) % 2 == 1) = true := by have := HPar.out; simp; omega
            clear hup hbig
            go_wp2_with fail
            with_reducible refine (plus_one Q _).mono ?_
            rintro e w7 ⟨rfl, hb7⟩
            have HK := hide ((Blk.new w6 80 #[.int .u64 ((Big.dig Q 0 : Nat) : Int), .int .u64 ((Big.dig Q 1 : Nat) : Int), .int .u64 ((Big.dig Q 2 : Nat) : Int), .int .u64 ((Big.dig Q 3 : Nat) : Int), .int .u64 ((Big.dig Q 4 : Nat) : Int)]).below hb7 (by simp))
            have HB7 := hide ((HB5.out.alloc _).below hb7)
            clear hb7 x0
            obtain ⟨y0, y1, y2, y3, y4⟩ := Blk.c5 (f := Big.dig Q) HK.out
            obtain ⟨q0, q1, q2, q3, q4⟩ := HK.out.f5
            have x0 : w7.cell? ⟨g, 0, none⟩ = some (.bool sg) := HB7.out.2.1.cell 0
            have hne : g ≠ w6.heap.size := by omega
            have hne' : w6.heap.size ≠ g := by omega
            go_wp2_with fail
            with_reducible refine (answer_at 3 3 rfl sg (Q + 1) _ (by rw [P5]; omega)).mono ?_
            rintro e wz ⟨rfl, hbz⟩
            have HVz := hide ((HB7.out.1.fiveFar (by omega) _ _ _ _ _).below hbz)
            clear hbz x0 y0 y1 y2 y3 y4 q0 q1 q2 q3 q4
            rw [← HF.out]
            obtain ⟨pv, pe⟩ := p
            unfold ansV valV
            simp only
            obtain ⟨r0, r1, r2⟩ := HVz.out.2.2.1.c3
            obtain ⟨f0, f1, f2⟩ := HVz.out.2.2.1.f3
            have hl := HVz.out.size
            go_wp2_with fail
            refine bodyPost_ret (v := .tuple #[.agg #[.int .u8 (pv.k.toNat : Int), .int .i64 pv.n, .string pv.s], .int .i64 ((pe : Nat) : Int)]) (by simp [results, Tryz.results27, go_sem, r0, r1, r2]) rfl ⟨rfl, below_three HVz.out.2.2.2 (by omega) _ _ _⟩
        · have HF : Hid (p = Val.answer 3 (Val.signed sg Q)) := by
            show _ = _
            rw [HF0.out, HHe.out, if_neg hup]
          have t3 : decide ((5000 : Int) < (R : Int)) = false := by simp; omega
          by_cases hfive : R = 5000
          · have t4 : ((R : Int) == 5000) = true := by simp; omega
            have t5 : (((Big.dig Q 0 : Nat) : Int) % 2 == 1) = false := by have := HPar.out; simp; omega
            clear hup hfive
            go_wp2_with fail
            with_reducible refine (answer_at 3 3 rfl sg Q _ (by rw [P5]; omega)).mono ?_
            rintro e wz ⟨rfl, hbz⟩
            have HVz := hide ((HB5.out.alloc _).1.below hbz)
            clear hbz x0
            rw [← HF.out]
            obtain ⟨pv, pe⟩ := p
            unfold ansV valV
            simp only
            obtain ⟨r0, r1, r2⟩ := HVz.out.2.2.1.c3
            obtain ⟨f0, f1, f2⟩ := HVz.out.2.2.1.f3
            have hl := HVz.out.size
            go_wp2_with fail
            refine bodyPost_ret (v := .tuple #[.agg #[.int .u8 (pv.k.toNat : Int), .int .i64 pv.n, .string pv.s], .int .i64 ((pe : Nat) : Int)]) (by simp [results, Tryz.results27, go_sem, r0, r1, r2]) rfl ⟨rfl, below_three HVz.out.2.2.2 (by omega) _ _ _⟩
          · have t4 : ((R : Int) == 5000) = false := by simp; omega
            clear hup hfive
            go_wp2_with fail
            with_reducible refine (answer_at 3 3 rfl sg Q _ (by rw [P5]; omega)).mono ?_
            rintro e wz ⟨rfl, hbz⟩
            have HVz := hide ((HB5.out.alloc _).1.below hbz)
            clear hbz x0
            rw [← HF.out]
            obtain ⟨pv, pe⟩ := p
            unfold ansV valV
            simp only
            obtain ⟨r0, r1, r2⟩ := HVz.out.2.2.1.c3
            obtain ⟨f0, f1, f2⟩ := HVz.out.2.2.1.f3
            have hl := HVz.out.size
            go_wp2_with fail
            refine bodyPost_ret (v := .tuple #[.agg #[.int .u8 (pv.k.toNat : Int), .int .i64 pv.n, .string pv.s], .int .i64 ((pe : Nat) : Int)]) (by simp [results, Tryz.results27, go_sem, r0, r1, r2]) rfl ⟨rfl, below_three HVz.out.2.2.2 (by omega) _ _ _⟩
    · have t1 : ((k.toNat : Int) != (k'.toNat : Int)) = true := by
        rw [bne_iff_ne]
        intro h
        exact hkk (UInt8.toNat_inj.1 (by omega))
      have HF : Hid (p = Val.answer 3 (Val.signed sg X)) := by
        show _ = _
        rw [HP1.out, if_pos hkk, HPr.out]
      clear hkk
      go_wp2_with fail
      with_reducible refine (answer_at 3 3 rfl sg X w5 HXP.out).mono ?_
      rintro e wz ⟨rfl, hbz⟩
      have HVz := hide (HB5.out.1.below hbz)
      clear hbz
      rw [← HF.out]
      obtain ⟨pv, pe⟩ := p
      unfold ansV valV
      simp only
      obtain ⟨r0, r1, r2⟩ := HVz.out.2.2.1.c3
      obtain ⟨f0, f1, f2⟩ := HVz.out.2.2.1.f3
      have hl := HVz.out.size
      go_wp2_with fail
      refine bodyPost_ret (v := .tuple #[.agg #[.int .u8 (pv.k.toNat : Int), .int .i64 pv.n, .string pv.s], .int .i64 ((pe : Nat) : Int)]) (by simp [results, Tryz.results27, go_sem, r0, r1, r2]) rfl ⟨rfl, below_three HVz.out.2.2.2 (by omega) _ _ _⟩
end Go.Proofs.YticljmgcgjibpaaGreatDoor
