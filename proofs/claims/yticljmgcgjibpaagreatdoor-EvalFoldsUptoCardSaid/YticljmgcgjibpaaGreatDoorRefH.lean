/-
  The walk of chanceryref17.Sub. Conditions: numbers within 64 bits. (printed by refsub.py)
-/
import Derived.Test.YticljmgcgjibpaaGreatDoorRefG
import Derived.Test.YticljmgcgjibpaaGreatDoorGrow
namespace Go.Proofs.YticljmgcgjibpaaGreatDoor
open Go.RowKit

section
variable {w wr : World} {g b : Nat} {t : TypeId} {cs : Array Value}
theorem Blk.six {x0 x1 x2 x3 x4 x5 : Value} (h : Blk w g t #[x0, x1, x2, x3, x4, x5]) (u0 u1 u2 u3 u4 u5 : Value) : Blk ((((((w.setCell ⟨g, 0, none⟩ (u0)).setCell ⟨g, 1, none⟩ (u1)).setCell ⟨g, 2, none⟩ (u2)).setCell ⟨g, 3, none⟩ (u3)).setCell ⟨g, 4, none⟩ (u4)).setCell ⟨g, 5, none⟩ (u5)) g t #[u0, u1, u2, u3, u4, u5] :=
  (((((h.put 0 u0).put 1 u1).put 2 u2).put 3 u3).put 4 u4).put 5 u5
theorem Blk.sixFar (h : Blk w b t cs) (hne : b ≠ g) (u0 u1 u2 u3 u4 u5 : Value) : Blk ((((((w.setCell ⟨g, 0, none⟩ (u0)).setCell ⟨g, 1, none⟩ (u1)).setCell ⟨g, 2, none⟩ (u2)).setCell ⟨g, 3, none⟩ (u3)).setCell ⟨g, 4, none⟩ (u4)).setCell ⟨g, 5, none⟩ (u5)) b t cs :=
  (((((h.far (p := ⟨g, 0, none⟩) hne u0).far (p := ⟨g, 1, none⟩) hne u1).far (p := ⟨g, 2, none⟩) hne u2).far (p := ⟨g, 3, none⟩) hne u3).far (p := ⟨g, 4, none⟩) hne u4).far (p := ⟨g, 5, none⟩) hne u5
theorem V3.sixFar {k : UInt8} {n : Int} {s : ByteArray} {k' : UInt8} {n' : Int} {s' : ByteArray} (h : V3 w wr k n s k' n' s') (hg : w.heap.size + 1 + 1 < g) (u0 u1 u2 u3 u4 u5 : Value) : V3 w ((((((wr.setCell ⟨g, 0, none⟩ (u0)).setCell ⟨g, 1, none⟩ (u1)).setCell ⟨g, 2, none⟩ (u2)).setCell ⟨g, 3, none⟩ (u3)).setCell ⟨g, 4, none⟩ (u4)).setCell ⟨g, 5, none⟩ (u5)) k n s k' n' s' :=
  ⟨h.1.sixFar (by omega) _ _ _ _ _ _, h.2.1.sixFar (by omega) _ _ _ _ _ _, h.2.2.1.sixFar (by omega) _ _ _ _ _ _, below_six h.2.2.2 (by omega) _ _ _ _ _ _⟩
end
theorem V3.put1 {w wr : World} {g : Nat} {k : UInt8} {n : Int} {s : ByteArray} {k' : UInt8} {n' : Int} {s' : ByteArray} (h : V3 w wr k n s k' n' s') (hg : w.heap.size + 1 + 1 < g) (i : Nat) (u : Value) : V3 w (wr.setCell ⟨g, i, none⟩ u) k n s k' n' s' :=
  ⟨h.1.far (show _ ≠ g by omega) _, h.2.1.far (show _ ≠ g by omega) _, h.2.2.1.far (show _ ≠ g by omega) _, h.2.2.2.setCell (show _ ≤ g by omega) _⟩
theorem V3.lives (w : World) (k : UInt8) (n : Int) (s : ByteArray) (k' : UInt8) (n' : Int) (s' : ByteArray) : Lives (fun w' => V3 w w' k n s k' n' s') := fun _ _ h hb => h.below hb
/-- What 'big' tells. -/
def bigT : Told := fun f args v => f = 62 ∧ ∃ n : Int, args = #[.int .i64 n] ∧ v = .agg (G6 (decide (n < 0)) n.natAbs)
theorem bigT_one : bigT.One := by
  rintro f args v v' ⟨_, n, h1, h2⟩ ⟨_, n', h1', h2'⟩
  rw [h1] at h1'
  simp at h1'
  rw [h2, h2', h1']
theorem radd_at {na nb : Bool} {A B : Nat} {sg : Bool} {sv : Nat} (w : World) (hA : A < Big.P 5) (hB : B < Big.P 5) (h : addOf na A nb B = (sg, sv)) : Calls Tryz.prog 64 #[.agg #[.bool na, .int .u64 ((Big.dig A 0 : Nat) : Int), .int .u64 ((Big.dig A 1 : Nat) : Int), .int .u64 ((Big.dig A 2 : Nat) : Int), .int .u64 ((Big.dig A 3 : Nat) : Int), .int .u64 ((Big.dig A 4 : Nat) : Int)], .agg #[.bool nb, .int .u64 ((Big.dig B 0 : Nat) : Int), .int .u64 ((Big.dig B 1 : Nat) : Int), .int .u64 ((Big.dig B 2 : Nat) : Int), .int .u64 ((Big.dig B 3 : Nat) : Int), .int .u64 ((Big.dig B 4 : Nat) : Int)]] w fun e w' => e = .returned (.agg (G6 sg sv)) ∧ Below w.heap.size w w' := radd_to w hA hB h
/-- The blocks of x and y beside the values'. -/
def XY (w wr : World) (k : UInt8) (n : Int) (s : ByteArray) (k' : UInt8) (n' : Int) (s' : ByteArray) (g g' : Nat) (cs cs' : Array Value) : Prop := V3 w wr k n s k' n' s' ∧ Blk wr g 82 cs ∧ Blk wr g' 82 cs' ∧ w.heap.size + 1 + 1 < g ∧ w.heap.size + 1 + 1 < g' ∧ g ≠ g'

section
variable {w wr w' : World} {k : UInt8} {n : Int} {s : ByteArray} {k' : UInt8} {n' : Int} {s' : ByteArray} {g g' : Nat} {cs cs' : Array Value}
theorem XY.below (h : XY w wr k n s k' n' s' g g' cs cs') (hb : Below wr.heap.size wr w') : XY w w' k n s k' n' s' g g' cs cs' := ⟨h.1.below hb, h.2.1.below hb h.2.1.lt, h.2.2.1.below hb h.2.2.1.lt, h.2.2.2⟩
theorem XY.drew (h : XY w wr k n s k' n' s' g g' cs cs') : XY w { wr with drawn := wr.drawn + 1 } k n s k' n' s' g g' cs cs' := ⟨h.1.drew, h.2.1, h.2.2.1, h.2.2.2⟩
end
set_option maxRecDepth 20000 in
set_option maxHeartbeats 6400000 in
theorem rSub_any (k : UInt8) (n : Int) (s : ByteArray) (k' : UInt8) (n' : Int) (s' : ByteArray) (w : World) (h0 : -9223372036854775808 ≤ n) (h1 : n ≤ 9223372036854775807) (h0' : -9223372036854775808 ≤ n') (h1' : n' ≤ 9223372036854775807) :
    Calls Tryz.prog 26 #[.agg #[.int .u8 (k.toNat : Int), .int .i64 n, .string s], .agg #[.int .u8 (k'.toNat : Int), .int .i64 n', .string s']] w fun e w' => e = .returned (ansV (Val.sub ⟨k, n, s⟩ ⟨k', n', s'⟩)) ∧ Below w.heap.size w w' := by
  have HN := hide (V3.new w k n s k' n' s')
  obtain ⟨p, hp⟩ : ∃ p, p = Val.sub ⟨k, n, s⟩ ⟨k', n', s'⟩ := ⟨_, rfl⟩
  rw [← hp]
  unfold Val.sub at hp
  obtain ⟨nu, er, hq⟩ : ∃ nu er, Val.asked ⟨k, n, s⟩ ⟨k', n', s'⟩ = (nu, er) := ⟨_, _, rfl⟩
  rw [hq] at hp
  simp only at hp
  have HQ := hide hq
  have HP := hide hp
  clear hp hq
  go_enter Tryz.func26, Tryz.ntmps26
  go_wp2_with fail
  obtain ⟨w0, hw0⟩ : ∃ x, x = ((w.alloc (.cells #[.int .u8 (k.toNat : Int), .int .i64 n, .string s] 25)).alloc (.cells #[.int .u8 (k'.toNat : Int), .int .i64 n', .string s'] 25)).alloc (.cells #[.int .u8 0, .int .i64 0, .string ⟨#[]⟩] 25) := ⟨_, rfl⟩
  rw [← hw0] at HN ⊢
  clear hw0
  with_reducible refine (asked_any k n s k' n' s' w0).mono ?_
  rintro e w1 ⟨rfl, hb1⟩
  replace HN := hide (HN.out.below hb1)
  clear hb1
  rw [HQ.out]
  unfold askV
  simp only
  by_cases hbad : er ≠ 0 ∨ nu = true
  · have HF : Hid (p = (Val.vz, er)) := HP.out.trans (if_pos hbad)
    obtain ⟨r0, r1, r2⟩ := HN.out.2.2.1.c3
    obtain ⟨f0, f1, f2⟩ := HN.out.2.2.1.f3
    have hl := HN.out.size
    by_cases he : er = 0
    · subst he
      obtain rfl : nu = true := by simpa using hbad
      clear hbad
      go_wp2_with fail
      refine bodyPost_ret (v := ansV p) (by rw [HF.out]; simp [results, Tryz.results26, go_sem, r0, r1, r2, ansV, valV, Val.vz]) rfl ⟨rfl, below_three HN.out.2.2.2 (by omega) _ _ _⟩
    · have te : ((er : Int) != 0) = true := by simp; exact he
      clear hbad he
      go_wp2_with fail
      refine bodyPost_ret (v := ansV p) (by rw [HF.out]; simp [results, Tryz.results26, go_sem, r0, r1, r2, ansV, valV, Val.vz]) rfl ⟨rfl, below_three HN.out.2.2.2 (by omega) _ _ _⟩
  · have HP1 := hide (HP.out.trans (if_neg hbad))
    obtain ⟨rfl, rfl⟩ : er = 0 ∧ nu = false := by
      constructor
      · exact Decidable.byContradiction fun h => hbad (.inl h)
      · cases nu with
        | false => rfl
        | true => exact absurd (.inr rfl) hbad
    clear hbad HP HQ
    obtain ⟨a0, a1, a2⟩ := HN.out.1.c3
    obtain ⟨b0, b1, b2⟩ := HN.out.2.1.c3

    go_wp2_with fail
    clear a0 a1 a2 b0 b1 b2
    refine wp_region_grow bigT (fun w' => V3 w w' k n s k' n' s') (w.heap.size + 1 + 1 + 1) 8 bigT_one (V3.lives w k n s k' n' s') (by kernel_rfl) (by kernel_rfl) HN.out.drew (by have := HN.out.size; omega) ?_
    simp only [List.take_succ_cons, List.take_zero, List.drop_succ_cons, List.drop_zero]
    refine wpGrow_read ?_ rfl (fun w' hS => ?_) ?_
    rotate_left
    · go_simp
      rfl
    refine wpGrow_read ?_ rfl (fun w' hS => ?_) ?_
    rotate_left
    · obtain ⟨a0, a1, a2⟩ := hS.1.c3
      obtain ⟨b0, b1, b2⟩ := hS.2.1.c3
      go_simp
      rfl
    refine wpGrow_call _ _ _ rfl (fun w' hS => ?_) ⟨rfl, n, rfl, rfl⟩ (fun w' _ => big_any n w' h0 h1) ?_
    · go_simp
    refine wpGrow_read ?_ rfl (fun w' hS => ?_) ?_
    rotate_left
    · go_simp
      rfl
    refine wpGrow_read ?_ rfl (fun w' hS => ?_) ?_
    rotate_left
    · obtain ⟨a0, a1, a2⟩ := hS.1.c3
      obtain ⟨b0, b1, b2⟩ := hS.2.1.c3
      go_simp
      rfl
    refine wpGrow_call _ _ _ rfl (fun w' hS => ?_) ⟨rfl, n', rfl, rfl⟩ (fun w' _ => big_any n' w' h0' h1') ?_
    · go_simp
    refine wpGrow_make none (.cells #[.bool false, .int .u64 0, .int .u64 0, .int .u64 0, .int .u64 0, .int .u64 0] 82) rfl (fun w' hS => ?_) fun g => ?_
    · go_simp
      rfl
    refine wpGrow_make none (.cells #[.bool false, .int .u64 0, .int .u64 0, .int .u64 0, .int .u64 0, .int .u64 0] 82) rfl (fun w' hS => ?_) fun g' => ?_
    · go_simp
      rfl
    refine wpGrow_nil fun w4 hG => ?_
    obtain ⟨l6, h6⟩ := hG.lies 6 g _ rfl
    obtain ⟨l7, h7⟩ := hG.lies 7 g' _ rfl
    have hne : g ≠ g' := fun e => by
      subst e
      exact absurd (hG.apart 6 7 g _ _ rfl rfl) (by decide)
    have hne' : g' ≠ g := Ne.symm hne
    have K6 : Blk w4 g 82 #[.bool false, .int .u64 0, .int .u64 0, .int .u64 0, .int .u64 0, .int .u64 0] := l6
    have K7 : Blk w4 g' 82 #[.bool false, .int .u64 0, .int .u64 0, .int .u64 0, .int .u64 0, .int .u64 0] := l7
    have HV := hide hG.s
    have x0 : w4.cell? ⟨g, 0, none⟩ = some (.bool false) := K6.cell 0
    have x1 : w4.cell? ⟨g, 1, none⟩ = some (.int .u64 0) := K6.cell 1
    have x2 : w4.cell? ⟨g, 2, none⟩ = some (.int .u64 0) := K6.cell 2
    have x3 : w4.cell? ⟨g, 3, none⟩ = some (.int .u64 0) := K6.cell 3
    have x4 : w4.cell? ⟨g, 4, none⟩ = some (.int .u64 0) := K6.cell 4
    have x5 : w4.cell? ⟨g, 5, none⟩ = some (.int .u64 0) := K6.cell 5
    have y0 : w4.cell? ⟨g', 0, none⟩ = some (.bool false) := K7.cell 0
    have y1 : w4.cell? ⟨g', 1, none⟩ = some (.int .u64 0) := K7.cell 1
    have y2 : w4.cell? ⟨g', 2, none⟩ = some (.int .u64 0) := K7.cell 2
    have y3 : w4.cell? ⟨g', 3, none⟩ = some (.int .u64 0) := K7.cell 3
    have y4 : w4.cell? ⟨g', 4, none⟩ = some (.int .u64 0) := K7.cell 4
    have y5 : w4.cell? ⟨g', 5, none⟩ = some (.int .u64 0) := K7.cell 5
    obtain ⟨p0, p1, p2, p3, p4, p5⟩ := K6.f6
    obtain ⟨q0, q1, q2, q3, q4, q5⟩ := K7.f6
    have HK6 := hide K6
    have HK7 := hide K7
    clear l6 l7 K6 K7 hG
    unfold shapeV
    go_frame
    unfold G6
    go_upto_region 5 with fail
    obtain ⟨w5, hw5⟩ : ∃ x, x = ((((((((((((w4.setCell ⟨g, 0, none⟩ (.bool (decide (n < 0)))).setCell ⟨g, 1, none⟩ (.int .u64 ((Big.dig n.natAbs 0 : Nat) : Int))).setCell ⟨g, 2, none⟩ (.int .u64 ((Big.dig n.natAbs 1 : Nat) : Int))).setCell ⟨g, 3, none⟩ (.int .u64 ((Big.dig n.natAbs 2 : Nat) : Int))).setCell ⟨g, 4, none⟩ (.int .u64 ((Big.dig n.natAbs 3 : Nat) : Int))).setCell ⟨g, 5, none⟩ (.int .u64 ((Big.dig n.natAbs 4 : Nat) : Int))).setCell ⟨g', 0, none⟩ (.bool (decide (n' < 0)))).setCell ⟨g', 1, none⟩ (.int .u64 ((Big.dig n'.natAbs 0 : Nat) : Int))).setCell ⟨g', 2, none⟩ (.int .u64 ((Big.dig n'.natAbs 1 : Nat) : Int))).setCell ⟨g', 3, none⟩ (.int .u64 ((Big.dig n'.natAbs 2 : Nat) : Int))).setCell ⟨g', 4, none⟩ (.int .u64 ((Big.dig n'.natAbs 3 : Nat) : Int))).setCell ⟨g', 5, none⟩ (.int .u64 ((Big.dig n'.natAbs 4 : Nat) : Int))) := ⟨_, rfl⟩
    rw [← hw5]
    have HX : Hid (XY w w5 k n s k' n' s' g g' #[.bool (decide (n < 0)), .int .u64 ((Big.dig n.natAbs 0 : Nat) : Int), .int .u64 ((Big.dig n.natAbs 1 : Nat) : Int), .int .u64 ((Big.dig n.natAbs 2 : Nat) : Int), .int .u64 ((Big.dig n.natAbs 3 : Nat) : Int), .int .u64 ((Big.dig n.natAbs 4 : Nat) : Int)] #[.bool (decide (n' < 0)), .int .u64 ((Big.dig n'.natAbs 0 : Nat) : Int), .int .u64 ((Big.dig n'.natAbs 1 : Nat) : Int), .int .u64 ((Big.dig n'.natAbs 2 : Nat) : Int), .int .u64 ((Big.dig n'.natAbs 3 : Nat) : Int), .int .u64 ((Big.dig n'.natAbs 4 : Nat) : Int)]) := by
      rw [hw5]
      exact ⟨(HV.out.sixFar (by omega) _ _ _ _ _ _).sixFar (by omega) _ _ _ _ _ _, (HK6.out.six _ _ _ _ _ _).sixFar hne _ _ _ _ _ _, (HK7.out.sixFar hne' _ _ _ _ _ _).six _ _ _ _ _ _, by omega, by omega, hne⟩
    clear hw5 HV HK6 HK7 x0 x1 x2 x3 x4 x5 y0 y1 y2 y3 y4 y5 p0 p1 p2 p3 p4 p5 q0 q1 q2 q3 q4 q5 hne hne' h6 h7
    by_cases hk : k.toNat = 2
    · have tk : ((k.toNat : Int) == 2) = true := by simp; omega
      have tk2 : ((k.toNat : Int) != 2) = false := by simp; omega
      by_cases hk' : k'.toNat = 2
      · have tk' : ((k'.toNat : Int) != 2) = false := by simp; omega
        obtain ⟨sg, sv, hsv⟩ : ∃ sg sv, addOf (decide (n < 0)) (n.natAbs) (!decide (n' < 0)) (n'.natAbs) = (sg, sv) := ⟨_, _, rfl⟩
        have hla : n.natAbs ≤ 92233720368547758080000 := by first | exact fixN_lt h0 h1 | omega
        have hlb : n'.natAbs ≤ 92233720368547758080000 := by first | exact fixN_lt h0' h1' | omega
        have HL := hide (addOf_lt hsv hla hlb)
        have HBa : Hid (n.natAbs < Big.P 5) := by rw [P5]; show _ < _; omega
        have HBb : Hid (n'.natAbs < Big.P 5) := by rw [P5]; show _ < _; omega
        have HF : Hid (p = Val.answer 2 (Val.signed sg sv)) := by
          show _ = _
          rw [HP1.out, if_pos ⟨hk, hk'⟩, addOf_to hsv, Val.signed_not, ← Int.sub_eq_add_neg]
          first | rw [Val.signed_abs, Val.signed_abs] | rw [← signed_eq, ← signed_eq, fixN_signed ⟨k, n, s⟩, fixN_signed ⟨k', n', s'⟩]
        have HA := hide hsv
        clear hsv hla hlb HP1
        clear hk hk'
        obtain ⟨a0, a1, a2⟩ := HX.out.1.1.c3
        obtain ⟨b0, b1, b2⟩ := HX.out.1.2.1.c3
        obtain ⟨y0, -, -, -, -, -⟩ := HX.out.2.2.1.c6
        have q0 := HX.out.2.2.1.frozen 0
        go_upto_region 8 with fail
        obtain ⟨w6, hw6⟩ : ∃ x, x = w5.setCell ⟨g', 0, none⟩ (.bool (!decide (n' < 0))) := ⟨_, rfl⟩
        rw [← hw6]
        have HY : Hid (XY w w6 k n s k' n' s' g g' #[.bool (decide (n < 0)), .int .u64 ((Big.dig n.natAbs 0 : Nat) : Int), .int .u64 ((Big.dig n.natAbs 1 : Nat) : Int), .int .u64 ((Big.dig n.natAbs 2 : Nat) : Int), .int .u64 ((Big.dig n.natAbs 3 : Nat) : Int), .int .u64 ((Big.dig n.natAbs 4 : Nat) : Int)] #[.bool (!decide (n' < 0)), .int .u64 ((Big.dig n'.natAbs 0 : Nat) : Int), .int .u64 ((Big.dig n'.natAbs 1 : Nat) : Int), .int .u64 ((Big.dig n'.natAbs 2 : Nat) : Int), .int .u64 ((Big.dig n'.natAbs 3 : Nat) : Int), .int .u64 ((Big.dig n'.natAbs 4 : Nat) : Int)]) := by
          rw [hw6]
          obtain ⟨z1, z2, z3, z4, z5, z6⟩ := HX.out
          exact ⟨z1.put1 z5 0 _, z2.far (show g ≠ g' from z6) _, z3.put 0 _, z4, z5, z6⟩
        clear hw6 HX y0 q0
        obtain ⟨x0, x1, x2, x3, x4, x5⟩ := Blk.c6 (n := decide (n < 0)) (V := n.natAbs) HY.out.2.1
        obtain ⟨y0, y1, y2, y3, y4, y5⟩ := Blk.c6 (n := !decide (n' < 0)) (V := n'.natAbs) HY.out.2.2.1
        go_wp2_with fail
        with_reducible refine (radd_at w6 HBa.out HBb.out HA.out).mono ?_
        rintro e w7 ⟨rfl, hb7⟩
        have HV7 := hide (HY.out.1.below hb7)
        clear hb7 x0 x1 x2 x3 x4 x5 y0 y1 y2 y3 y4 y5 HY
        go_wp2_with fail
        with_reducible refine (answer_any 2 2 rfl sg sv w7 HL.out).mono ?_
        rintro e w8 ⟨rfl, hb8⟩
        have hS := HV7.out.below hb8
        clear hb8 HV7
        rw [← HF.out]
        obtain ⟨pv, pe⟩ := p
        unfold ansV valV
        simp only
        have HN := hide hS
        obtain ⟨r0, r1, r2⟩ := hS.2.2.1.c3
        obtain ⟨f0, f1, f2⟩ := hS.2.2.1.f3
        have hl := hS.size
        clear hS
        go_wp2_with fail
        refine bodyPost_ret (v := .tuple #[.agg #[.int .u8 (pv.k.toNat : Int), .int .i64 pv.n, .string pv.s], .int .i64 ((pe : Nat) : Int)]) (by simp [results, Tryz.results26, go_sem, r0, r1, r2]) rfl ⟨rfl, below_three HN.out.2.2.2 (by omega) _ _ _⟩
      · have tk' : ((k'.toNat : Int) != 2) = true := by simp; omega
        obtain ⟨sg, sv, hsv⟩ : ∃ sg sv, addOf (decide (n < 0)) (fixN k n) (!decide (n' < 0)) (fixN k' n') = (sg, sv) := ⟨_, _, rfl⟩
        have hla : fixN k n ≤ 92233720368547758080000 := by first | exact fixN_lt h0 h1 | omega
        have hlb : fixN k' n' ≤ 92233720368547758080000 := by first | exact fixN_lt h0' h1' | omega
        have HL := hide (addOf_lt hsv hla hlb)
        have HBa : Hid (fixN k n < Big.P 5) := by rw [P5]; show _ < _; omega
        have HBb : Hid (fixN k' n' < Big.P 5) := by rw [P5]; show _ < _; omega
        have HF : Hid (p = Val.answer 3 (Val.signed sg sv)) := by
          show _ = _
          rw [HP1.out, if_neg (fun h => hk' h.2), addOf_to hsv, Val.signed_not, ← Int.sub_eq_add_neg]
          first | rw [Val.signed_abs, Val.signed_abs] | rw [← signed_eq, ← signed_eq, fixN_signed ⟨k, n, s⟩, fixN_signed ⟨k', n', s'⟩]
        have HA := hide hsv
        clear hsv hla hlb HP1
        clear hk hk'
        obtain ⟨a0, a1, a2⟩ := HX.out.1.1.c3
        obtain ⟨b0, b1, b2⟩ := HX.out.1.2.1.c3
        go_wp2_with fail
        clear a0 a1 a2 b0 b1 b2
        refine wp_region_flow (fun w' => XY w w' k n s k' n' s' g g' #[.bool (decide (n < 0)), .int .u64 ((Big.dig n.natAbs 0 : Nat) : Int), .int .u64 ((Big.dig n.natAbs 1 : Nat) : Int), .int .u64 ((Big.dig n.natAbs 2 : Nat) : Int), .int .u64 ((Big.dig n.natAbs 3 : Nat) : Int), .int .u64 ((Big.dig n.natAbs 4 : Nat) : Int)] #[.bool (decide (n' < 0)), .int .u64 ((Big.dig n'.natAbs 0 : Nat) : Int), .int .u64 ((Big.dig n'.natAbs 1 : Nat) : Int), .int .u64 ((Big.dig n'.natAbs 2 : Nat) : Int), .int .u64 ((Big.dig n'.natAbs 3 : Nat) : Int), .int .u64 ((Big.dig n'.natAbs 4 : Nat) : Int)]) 4 (by kernel_rfl) (by kernel_rfl) HX.out.drew ?_
        simp only [List.take_succ_cons, List.take_zero, List.drop_succ_cons, List.drop_zero]
        refine wpFlow_read ?_ rfl (fun w' hS => ?_) ?_
        rotate_left
        · obtain ⟨a0, a1, a2⟩ := hS.1.1.c3
          obtain ⟨b0, b1, b2⟩ := hS.1.2.1.c3
          go_simp
          rfl
        refine wpFlow_call _ _ _ rfl (fun w' hS => ?_) (fun w' (hS : (fun w' => XY w w' k n s k' n' s' g g' #[.bool (decide (n < 0)), .int .u64 ((Big.dig n.natAbs 0 : Nat) : Int), .int .u64 ((Big.dig n.natAbs 1 : Nat) : Int), .int .u64 ((Big.dig n.natAbs 2 : Nat) : Int), .int .u64 ((Big.dig n.natAbs 3 : Nat) : Int), .int .u64 ((Big.dig n.natAbs 4 : Nat) : Int)] #[.bool (decide (n' < 0)), .int .u64 ((Big.dig n'.natAbs 0 : Nat) : Int), .int .u64 ((Big.dig n'.natAbs 1 : Nat) : Int), .int .u64 ((Big.dig n'.natAbs 2 : Nat) : Int), .int .u64 ((Big.dig n'.natAbs 3 : Nat) : Int), .int .u64 ((Big.dig n'.natAbs 4 : Nat) : Int)]) w') => ((fixed_any k n s w' h0 h1).mono fun e w2 hp => ⟨hp.1, hS.below hp.2⟩)) ?_
        · go_simp
        refine wpFlow_read ?_ rfl (fun w' hS => ?_) ?_
        rotate_left
        · obtain ⟨a0, a1, a2⟩ := hS.1.1.c3
          obtain ⟨b0, b1, b2⟩ := hS.1.2.1.c3
          go_simp
          rfl
        refine wpFlow_call _ _ _ rfl (fun w' hS => ?_) (fun w' (hS : (fun w' => XY w w' k n s k' n' s' g g' #[.bool (decide (n < 0)), .int .u64 ((Big.dig n.natAbs 0 : Nat) : Int), .int .u64 ((Big.dig n.natAbs 1 : Nat) : Int), .int .u64 ((Big.dig n.natAbs 2 : Nat) : Int), .int .u64 ((Big.dig n.natAbs 3 : Nat) : Int), .int .u64 ((Big.dig n.natAbs 4 : Nat) : Int)] #[.bool (decide (n' < 0)), .int .u64 ((Big.dig n'.natAbs 0 : Nat) : Int), .int .u64 ((Big.dig n'.natAbs 1 : Nat) : Int), .int .u64 ((Big.dig n'.natAbs 2 : Nat) : Int), .int .u64 ((Big.dig n'.natAbs 3 : Nat) : Int), .int .u64 ((Big.dig n'.natAbs 4 : Nat) : Int)]) w') => ((fixed_any k' n' s' w' h0' h1').mono fun e w2 hp => ⟨hp.1, hS.below hp.2⟩)) ?_
        · go_simp
        refine wpFlow_nil fun w9 hS => ?_
        clear HX
        have HX := hide hS
        clear hS
        have hne := HX.out.2.2.2.2.2
        have hne' := Ne.symm hne
        obtain ⟨x0, x1, x2, x3, x4, x5⟩ := Blk.c6 (n := decide (n < 0)) (V := n.natAbs) HX.out.2.1
        obtain ⟨y0, y1, y2, y3, y4, y5⟩ := Blk.c6 (n := decide (n' < 0)) (V := n'.natAbs) HX.out.2.2.1
        obtain ⟨p0, p1, p2, p3, p4, p5⟩ := HX.out.2.1.f6
        obtain ⟨q0, q1, q2, q3, q4, q5⟩ := HX.out.2.2.1.f6
        go_frame
        unfold G6
        go_upto_region 7 with fail
        obtain ⟨wa, hwa⟩ : ∃ x, x = ((((((((((((w9.setCell ⟨g, 0, none⟩ (.bool (decide (n < 0)))).setCell ⟨g, 1, none⟩ (.int .u64 ((Big.dig (fixN k n) 0 : Nat) : Int))).setCell ⟨g, 2, none⟩ (.int .u64 ((Big.dig (fixN k n) 1 : Nat) : Int))).setCell ⟨g, 3, none⟩ (.int .u64 ((Big.dig (fixN k n) 2 : Nat) : Int))).setCell ⟨g, 4, none⟩ (.int .u64 ((Big.dig (fixN k n) 3 : Nat) : Int))).setCell ⟨g, 5, none⟩ (.int .u64 ((Big.dig (fixN k n) 4 : Nat) : Int))).setCell ⟨g', 0, none⟩ (.bool (decide (n' < 0)))).setCell ⟨g', 1, none⟩ (.int .u64 ((Big.dig (fixN k' n') 0 : Nat) : Int))).setCell ⟨g', 2, none⟩ (.int .u64 ((Big.dig (fixN k' n') 1 : Nat) : Int))).setCell ⟨g', 3, none⟩ (.int .u64 ((Big.dig (fixN k' n') 2 : Nat) : Int))).setCell ⟨g', 4, none⟩ (.int .u64 ((Big.dig (fixN k' n') 3 : Nat) : Int))).setCell ⟨g', 5, none⟩ (.int .u64 ((Big.dig (fixN k' n') 4 : Nat) : Int))) := ⟨_, rfl⟩
        rw [← hwa]
        have HX2 : Hid (XY w wa k n s k' n' s' g g' #[.bool (decide (n < 0)), .int .u64 ((Big.dig (fixN k n) 0 : Nat) : Int), .int .u64 ((Big.dig (fixN k n) 1 : Nat) : Int), .int .u64 ((Big.dig (fixN k n) 2 : Nat) : Int), .int .u64 ((Big.dig (fixN k n) 3 : Nat) : Int), .int .u64 ((Big.dig (fixN k n) 4 : Nat) : Int)] #[.bool (decide (n' < 0)), .int .u64 ((Big.dig (fixN k' n') 0 : Nat) : Int), .int .u64 ((Big.dig (fixN k' n') 1 : Nat) : Int), .int .u64 ((Big.dig (fixN k' n') 2 : Nat) : Int), .int .u64 ((Big.dig (fixN k' n') 3 : Nat) : Int), .int .u64 ((Big.dig (fixN k' n') 4 : Nat) : Int)]) := by
          rw [hwa]
          obtain ⟨z1, z2, z3, z4, z5, z6⟩ := HX.out
          exact ⟨(z1.sixFar z4 _ _ _ _ _ _).sixFar z5 _ _ _ _ _ _, (z2.six _ _ _ _ _ _).sixFar hne _ _ _ _ _ _, (z3.sixFar hne' _ _ _ _ _ _).six _ _ _ _ _ _, z4, z5, z6⟩
        clear hwa HX x0 x1 x2 x3 x4 x5 y0 y1 y2 y3 y4 y5 p0 p1 p2 p3 p4 p5 q0 q1 q2 q3 q4 q5 hne hne'
        have HX := hide HX2.out
        clear HX2
        obtain ⟨y0, -, -, -, -, -⟩ := HX.out.2.2.1.c6
        have q0 := HX.out.2.2.1.frozen 0
        go_upto_region 8 with fail
        obtain ⟨w6, hw6⟩ : ∃ x, x = wa.setCell ⟨g', 0, none⟩ (.bool (!decide (n' < 0))) := ⟨_, rfl⟩
        rw [← hw6]
        have HY : Hid (XY w w6 k n s k' n' s' g g' #[.bool (decide (n < 0)), .int .u64 ((Big.dig (fixN k n) 0 : Nat) : Int), .int .u64 ((Big.dig (fixN k n) 1 : Nat) : Int), .int .u64 ((Big.dig (fixN k n) 2 : Nat) : Int), .int .u64 ((Big.dig (fixN k n) 3 : Nat) : Int), .int .u64 ((Big.dig (fixN k n) 4 : Nat) : Int)] #[.bool (!decide (n' < 0)), .int .u64 ((Big.dig (fixN k' n') 0 : Nat) : Int), .int .u64 ((Big.dig (fixN k' n') 1 : Nat) : Int), .int .u64 ((Big.dig (fixN k' n') 2 : Nat) : Int), .int .u64 ((Big.dig (fixN k' n') 3 : Nat) : Int), .int .u64 ((Big.dig (fixN k' n') 4 : Nat) : Int)]) := by
          rw [hw6]
          obtain ⟨z1, z2, z3, z4, z5, z6⟩ := HX.out
          exact ⟨z1.put1 z5 0 _, z2.far (show g ≠ g' from z6) _, z3.put 0 _, z4, z5, z6⟩
        clear hw6 HX y0 q0
        obtain ⟨x0, x1, x2, x3, x4, x5⟩ := Blk.c6 (n := decide (n < 0)) (V := (fixN k n)) HY.out.2.1
        obtain ⟨y0, y1, y2, y3, y4, y5⟩ := Blk.c6 (n := !decide (n' < 0)) (V := (fixN k' n')) HY.out.2.2.1
        go_wp2_with fail
        with_reducible refine (radd_at w6 HBa.out HBb.out HA.out).mono ?_
        rintro e w7 ⟨rfl, hb7⟩
        have HV7 := hide (HY.out.1.below hb7)
        clear hb7 x0 x1 x2 x3 x4 x5 y0 y1 y2 y3 y4 y5 HY
        go_wp2_with fail
        with_reducible refine (answer_any 3 3 rfl sg sv w7 HL.out).mono ?_
        rintro e w8 ⟨rfl, hb8⟩
        have hS := HV7.out.below hb8
        clear hb8 HV7
        rw [← HF.out]
        obtain ⟨pv, pe⟩ := p
        unfold ansV valV
        simp only
        have HN := hide hS
        obtain ⟨r0, r1, r2⟩ := hS.2.2.1.c3
        obtain ⟨f0, f1, f2⟩ := hS.2.2.1.f3
        have hl := hS.size
        clear hS
        go_wp2_with fail
        refine bodyPost_ret (v := .tuple #[.agg #[.int .u8 (pv.k.toNat : Int), .int .i64 pv.n, .string pv.s], .int .i64 ((pe : Nat) : Int)]) (by simp [results, Tryz.results26, go_sem, r0, r1, r2]) rfl ⟨rfl, below_three HN.out.2.2.2 (by omega) _ _ _⟩
    · have tk2 : ((k.toNat : Int) != 2) = true := by simp; omega
      obtain ⟨sg, sv, hsv⟩ : ∃ sg sv, addOf (decide (n < 0)) (fixN k n) (!decide (n' < 0)) (fixN k' n') = (sg, sv) := ⟨_, _, rfl⟩
      have hla : fixN k n ≤ 92233720368547758080000 := by first | exact fixN_lt h0 h1 | omega
      have hlb : fixN k' n' ≤ 92233720368547758080000 := by first | exact fixN_lt h0' h1' | omega
      have HL := hide (addOf_lt hsv hla hlb)
      have HBa : Hid (fixN k n < Big.P 5) := by rw [P5]; show _ < _; omega
      have HBb : Hid (fixN k' n' < Big.P 5) := by rw [P5]; show _ < _; omega
      have HF : Hid (p = Val.answer 3 (Val.signed sg sv)) := by
        show _ = _
        rw [HP1.out, if_neg (fun h => hk h.1), addOf_to hsv, Val.signed_not, ← Int.sub_eq_add_neg]
        first | rw [Val.signed_abs, Val.signed_abs] | rw [← signed_eq, ← signed_eq, fixN_signed ⟨k, n, s⟩, fixN_signed ⟨k', n', s'⟩]
      have HA := hide hsv
      clear hsv hla hlb HP1
      clear hk
      obtain ⟨a0, a1, a2⟩ := HX.out.1.1.c3
      obtain ⟨b0, b1, b2⟩ := HX.out.1.2.1.c3
      go_wp2_with fail
      clear a0 a1 a2 b0 b1 b2
      refine wp_region_flow (fun w' => XY w w' k n s k' n' s' g g' #[.bool (decide (n < 0)), .int .u64 ((Big.dig n.natAbs 0 : Nat) : Int), .int .u64 ((Big.dig n.natAbs 1 : Nat) : Int), .int .u64 ((Big.dig n.natAbs 2 : Nat) : Int), .int .u64 ((Big.dig n.natAbs 3 : Nat) : Int), .int .u64 ((Big.dig n.natAbs 4 : Nat) : Int)] #[.bool (decide (n' < 0)), .int .u64 ((Big.dig n'.natAbs 0 : Nat) : Int), .int .u64 ((Big.dig n'.natAbs 1 : Nat) : Int), .int .u64 ((Big.dig n'.natAbs 2 : Nat) : Int), .int .u64 ((Big.dig n'.natAbs 3 : Nat) : Int), .int .u64 ((Big.dig n'.natAbs 4 : Nat) : Int)]) 4 (by kernel_rfl) (by kernel_rfl) HX.out.drew ?_
      simp only [List.take_succ_cons, List.take_zero, List.drop_succ_cons, List.drop_zero]
      refine wpFlow_read ?_ rfl (fun w' hS => ?_) ?_
      rotate_left
      · obtain ⟨a0, a1, a2⟩ := hS.1.1.c3
        obtain ⟨b0, b1, b2⟩ := hS.1.2.1.c3
        go_simp
        rfl
      refine wpFlow_call _ _ _ rfl (fun w' hS => ?_) (fun w' (hS : (fun w' => XY w w' k n s k' n' s' g g' #[.bool (decide (n < 0)), .int .u64 ((Big.dig n.natAbs 0 : Nat) : Int), .int .u64 ((Big.dig n.natAbs 1 : Nat) : Int), .int .u64 ((Big.dig n.natAbs 2 : Nat) : Int), .int .u64 ((Big.dig n.natAbs 3 : Nat) : Int), .int .u64 ((Big.dig n.natAbs 4 : Nat) : Int)] #[.bool (decide (n' < 0)), .int .u64 ((Big.dig n'.natAbs 0 : Nat) : Int), .int .u64 ((Big.dig n'.natAbs 1 : Nat) : Int), .int .u64 ((Big.dig n'.natAbs 2 : Nat) : Int), .int .u64 ((Big.dig n'.natAbs 3 : Nat) : Int), .int .u64 ((Big.dig n'.natAbs 4 : Nat) : Int)]) w') => ((fixed_any k n s w' h0 h1).mono fun e w2 hp => ⟨hp.1, hS.below hp.2⟩)) ?_
      · go_simp
      refine wpFlow_read ?_ rfl (fun w' hS => ?_) ?_
      rotate_left
      · obtain ⟨a0, a1, a2⟩ := hS.1.1.c3
        obtain ⟨b0, b1, b2⟩ := hS.1.2.1.c3
        go_simp
        rfl
      refine wpFlow_call _ _ _ rfl (fun w' hS => ?_) (fun w' (hS : (fun w' => XY w w' k n s k' n' s' g g' #[.bool (decide (n < 0)), .int .u64 ((Big.dig n.natAbs 0 : Nat) : Int), .int .u64 ((Big.dig n.natAbs 1 : Nat) : Int), .int .u64 ((Big.dig n.natAbs 2 : Nat) : Int), .int .u64 ((Big.dig n.natAbs 3 : Nat) : Int), .int .u64 ((Big.dig n.natAbs 4 : Nat) : Int)] #[.bool (decide (n' < 0)), .int .u64 ((Big.dig n'.natAbs 0 : Nat) : Int), .int .u64 ((Big.dig n'.natAbs 1 : Nat) : Int), .int .u64 ((Big.dig n'.natAbs 2 : Nat) : Int), .int .u64 ((Big.dig n'.natAbs 3 : Nat) : Int), .int .u64 ((Big.dig n'.natAbs 4 : Nat) : Int)]) w') => ((fixed_any k' n' s' w' h0' h1').mono fun e w2 hp => ⟨hp.1, hS.below hp.2⟩)) ?_
      · go_simp
      refine wpFlow_nil fun w9 hS => ?_
      clear HX
      have HX := hide hS
      clear hS
      have hne := HX.out.2.2.2.2.2
      have hne' := Ne.symm hne
      obtain ⟨x0, x1, x2, x3, x4, x5⟩ := Blk.c6 (n := decide (n < 0)) (V := n.natAbs) HX.out.2.1
      obtain ⟨y0, y1, y2, y3, y4, y5⟩ := Blk.c6 (n := decide (n' < 0)) (V := n'.natAbs) HX.out.2.2.1
      obtain ⟨p0, p1, p2, p3, p4, p5⟩ := HX.out.2.1.f6
      obtain ⟨q0, q1, q2, q3, q4, q5⟩ := HX.out.2.2.1.f6
      go_frame
      unfold G6
      go_upto_region 7 with fail
      obtain ⟨wa, hwa⟩ : ∃ x, x = ((((((((((((w9.setCell ⟨g, 0, none⟩ (.bool (decide (n < 0)))).setCell ⟨g, 1, none⟩ (.int .u64 ((Big.dig (fixN k n) 0 : Nat) : Int))).setCell ⟨g, 2, none⟩ (.int .u64 ((Big.dig (fixN k n) 1 : Nat) : Int))).setCell ⟨g, 3, none⟩ (.int .u64 ((Big.dig (fixN k n) 2 : Nat) : Int))).setCell ⟨g, 4, none⟩ (.int .u64 ((Big.dig (fixN k n) 3 : Nat) : Int))).setCell ⟨g, 5, none⟩ (.int .u64 ((Big.dig (fixN k n) 4 : Nat) : Int))).setCell ⟨g', 0, none⟩ (.bool (decide (n' < 0)))).setCell ⟨g', 1, none⟩ (.int .u64 ((Big.dig (fixN k' n') 0 : Nat) : Int))).setCell ⟨g', 2, none⟩ (.int .u64 ((Big.dig (fixN k' n') 1 : Nat) : Int))).setCell ⟨g', 3, none⟩ (.int .u64 ((Big.dig (fixN k' n') 2 : Nat) : Int))).setCell ⟨g', 4, none⟩ (.int .u64 ((Big.dig (fixN k' n') 3 : Nat) : Int))).setCell ⟨g', 5, none⟩ (.int .u64 ((Big.dig (fixN k' n') 4 : Nat) : Int))) := ⟨_, rfl⟩
      rw [← hwa]
      have HX2 : Hid (XY w wa k n s k' n' s' g g' #[.bool (decide (n < 0)), .int .u64 ((Big.dig (fixN k n) 0 : Nat) : Int), .int .u64 ((Big.dig (fixN k n) 1 : Nat) : Int), .int .u64 ((Big.dig (fixN k n) 2 : Nat) : Int), .int .u64 ((Big.dig (fixN k n) 3 : Nat) : Int), .int .u64 ((Big.dig (fixN k n) 4 : Nat) : Int)] #[.bool (decide (n' < 0)), .int .u64 ((Big.dig (fixN k' n') 0 : Nat) : Int), .int .u64 ((Big.dig (fixN k' n') 1 : Nat) : Int), .int .u64 ((Big.dig (fixN k' n') 2 : Nat) : Int), .int .u64 ((Big.dig (fixN k' n') 3 : Nat) : Int), .int .u64 ((Big.dig (fixN k' n') 4 : Nat) : Int)]) := by
        rw [hwa]
        obtain ⟨z1, z2, z3, z4, z5, z6⟩ := HX.out
        exact ⟨(z1.sixFar z4 _ _ _ _ _ _).sixFar z5 _ _ _ _ _ _, (z2.six _ _ _ _ _ _).sixFar hne _ _ _ _ _ _, (z3.sixFar hne' _ _ _ _ _ _).six _ _ _ _ _ _, z4, z5, z6⟩
      clear hwa HX x0 x1 x2 x3 x4 x5 y0 y1 y2 y3 y4 y5 p0 p1 p2 p3 p4 p5 q0 q1 q2 q3 q4 q5 hne hne'
      have HX := hide HX2.out
      clear HX2
      obtain ⟨y0, -, -, -, -, -⟩ := HX.out.2.2.1.c6
      have q0 := HX.out.2.2.1.frozen 0
      go_upto_region 8 with fail
      obtain ⟨w6, hw6⟩ : ∃ x, x = wa.setCell ⟨g', 0, none⟩ (.bool (!decide (n' < 0))) := ⟨_, rfl⟩
      rw [← hw6]
      have HY : Hid (XY w w6 k n s k' n' s' g g' #[.bool (decide (n < 0)), .int .u64 ((Big.dig (fixN k n) 0 : Nat) : Int), .int .u64 ((Big.dig (fixN k n) 1 : Nat) : Int), .int .u64 ((Big.dig (fixN k n) 2 : Nat) : Int), .int .u64 ((Big.dig (fixN k n) 3 : Nat) : Int), .int .u64 ((Big.dig (fixN k n) 4 : Nat) : Int)] #[.bool (!decide (n' < 0)), .int .u64 ((Big.dig (fixN k' n') 0 : Nat) : Int), .int .u64 ((Big.dig (fixN k' n') 1 : Nat) : Int), .int .u64 ((Big.dig (fixN k' n') 2 : Nat) : Int), .int .u64 ((Big.dig (fixN k' n') 3 : Nat) : Int), .int .u64 ((Big.dig (fixN k' n') 4 : Nat) : Int)]) := by
        rw [hw6]
        obtain ⟨z1, z2, z3, z4, z5, z6⟩ := HX.out
        exact ⟨z1.put1 z5 0 _, z2.far (show g ≠ g' from z6) _, z3.put 0 _, z4, z5, z6⟩
      clear hw6 HX y0 q0
      obtain ⟨x0, x1, x2, x3, x4, x5⟩ := Blk.c6 (n := decide (n < 0)) (V := (fixN k n)) HY.out.2.1
      obtain ⟨y0, y1, y2, y3, y4, y5⟩ := Blk.c6 (n := !decide (n' < 0)) (V := (fixN k' n')) HY.out.2.2.1
      go_wp2_with fail
      with_reducible refine (radd_at w6 HBa.out HBb.out HA.out).mono ?_
      rintro e w7 ⟨rfl, hb7⟩
      have HV7 := hide (HY.out.1.below hb7)
      clear hb7 x0 x1 x2 x3 x4 x5 y0 y1 y2 y3 y4 y5 HY
      go_wp2_with fail
      with_reducible refine (answer_any 3 3 rfl sg sv w7 HL.out).mono ?_
      rintro e w8 ⟨rfl, hb8⟩
      have hS := HV7.out.below hb8
      clear hb8 HV7
      rw [← HF.out]
      obtain ⟨pv, pe⟩ := p
      unfold ansV valV
      simp only
      have HN := hide hS
      obtain ⟨r0, r1, r2⟩ := hS.2.2.1.c3
      obtain ⟨f0, f1, f2⟩ := hS.2.2.1.f3
      have hl := hS.size
      clear hS
      go_wp2_with fail
      refine bodyPost_ret (v := .tuple #[.agg #[.int .u8 (pv.k.toNat : Int), .int .i64 pv.n, .string pv.s], .int .i64 ((pe : Nat) : Int)]) (by simp [results, Tryz.results26, go_sem, r0, r1, r2]) rfl ⟨rfl, below_three HN.out.2.2.2 (by omega) _ _ _⟩
end Go.Proofs.YticljmgcgjibpaaGreatDoor
