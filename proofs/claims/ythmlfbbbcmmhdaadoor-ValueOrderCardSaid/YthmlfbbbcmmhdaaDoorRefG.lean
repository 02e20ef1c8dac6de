/-
  The walks of chanceryref17: Add, Sub, Mul, Neg. Conditions: numbers within 64 bits. (printed by refg.py)
-/
import Derived.Test.YthmlfbbbcmmhdaaDoorRefF
namespace Go.Proofs.YthmlfbbbcmmhdaaDoor
open Go.RowKit

/-- Two values' blocks and a zero value's. -/
def V3 (w wr : World) (k : UInt8) (n : Int) (s : ByteArray) (k' : UInt8) (n' : Int) (s' : ByteArray) : Prop := Blk wr w.heap.size 25 #[.int .u8 (k.toNat : Int), .int .i64 n, .string s] ∧ Blk wr (w.heap.size + 1) 25 #[.int .u8 (k'.toNat : Int), .int .i64 n', .string s'] ∧ Blk wr (w.heap.size + 1 + 1) 25 #[.int .u8 0, .int .i64 0, .string ⟨#[]⟩] ∧ Below w.heap.size w wr
theorem V3.new (w : World) (k : UInt8) (n : Int) (s : ByteArray) (k' : UInt8) (n' : Int) (s' : ByteArray) : V3 w (((w.alloc (.cells #[.int .u8 (k.toNat : Int), .int .i64 n, .string s] 25)).alloc (.cells #[.int .u8 (k'.toNat : Int), .int .i64 n', .string s'] 25)).alloc (.cells #[.int .u8 0, .int .i64 0, .string ⟨#[]⟩] 25)) k n s k' n' s' := by
  refine ⟨((Blk.new _ _ _).alloc _).alloc _, ?_, ?_, (((Below.refl _ _).alloc (Nat.le_refl _) _).alloc (by simp) _).alloc (by simp; omega) _⟩
  · have := (Blk.new (w.alloc (.cells #[.int .u8 (k.toNat : Int), .int .i64 n, .string s] 25)) 25 #[.int .u8 (k'.toNat : Int), .int .i64 n', .string s']).alloc (.cells #[.int .u8 0, .int .i64 0, .string ⟨#[]⟩] 25)
    simpa using this
  · have := Blk.new ((w.alloc (.cells #[.int .u8 (k.toNat : Int), .int .i64 n, .string s] 25)).alloc (.cells #[.int .u8 (k'.toNat : Int), .int .i64 n', .string s'] 25)) 25 #[.int .u8 0, .int .i64 0, .string ⟨#[]⟩]
    simpa using this
section
variable {w wr w' : World} {k : UInt8} {n : Int} {s : ByteArray} {k' : UInt8} {n' : Int} {s' : ByteArray}
theorem V3.size (h : V3 w wr k n s k' n' s') : w.heap.size + 1 + 1 < wr.heap.size := h.2.2.1.lt
theorem V3.below (h : V3 w wr k n s k' n' s') (hb : Below wr.heap.size wr w') : V3 w w' k n s k' n' s' := by
  have := h.size
  exact ⟨h.1.below hb (by omega), h.2.1.below hb (by omega), h.2.2.1.below hb (by omega), h.2.2.2.trans (hb.mono (by omega))⟩
theorem V3.drew (h : V3 w wr k n s k' n' s') : V3 w { wr with drawn := wr.drawn + 1 } k n s k' n' s' := ⟨h.1, h.2.1, h.2.2.1, h.2.2.2.drew⟩
end
theorem radd_lt {A B : Nat} (na nb : Bool) (hA : A ≤ 92233720368547758080000) (hB : B ≤ 92233720368547758080000) : (addOf na A nb B).2 < Big.P 5 := by
  rw [P5]
  unfold addOf
  split
  · show A + B < _; omega
  · split
    · show B - A < _; omega
    · show A - B < _; omega

theorem radd_to {na nb : Bool} {A B : Nat} {sg : Bool} {sv : Nat} (w : World) (hA : A < Big.P 5) (hB : B < Big.P 5) (h : addOf na A nb B = (sg, sv)) : Calls Tryd.prog 43 #[.agg (G6 na A), .agg (G6 nb B)] w fun e w' => e = .returned (.agg (G6 sg sv)) ∧ Below w.heap.size w w' := by
  have := radd_any na nb A B w hA hB
  rw [h] at this
  exact this
theorem addOf_to {na nb : Bool} {A B : Nat} {sg : Bool} {sv : Nat} (h : addOf na A nb B = (sg, sv)) : Val.signed sg sv = Val.signed na A + Val.signed nb B := by
  have := addOf_int na A nb B
  rw [h] at this
  exact this
theorem addOf_lt {na nb : Bool} {A B : Nat} {sg : Bool} {sv : Nat} (h : addOf na A nb B = (sg, sv)) (hA : A ≤ 92233720368547758080000) (hB : B ≤ 92233720368547758080000) : sv < Big.P 5 := by
  have := radd_lt na nb hA hB
  rw [h] at this
  exact this

set_option maxRecDepth 20000 in
set_option maxHeartbeats 6400000 in
theorem rAdd_any (k : UInt8) (n : Int) (s : ByteArray) (k' : UInt8) (n' : Int) (s' : ByteArray) (w : World) (h0 : -9223372036854775808 ≤ n) (h1 : n ≤ 9223372036854775807) (h0' : -9223372036854775808 ≤ n') (h1' : n' ≤ 9223372036854775807) :
    Calls Tryd.prog 22 #[.agg #[.int .u8 (k.toNat : Int), .int .i64 n, .string s], .agg #[.int .u8 (k'.toNat : Int), .int .i64 n', .string s']] w fun e w' => e = .returned (ansV (Val.add ⟨k, n, s⟩ ⟨k', n', s'⟩)) ∧ Below w.heap.size w w' := by
  have HN := hide (V3.new w k n s k' n' s')
  obtain ⟨p, hp⟩ : ∃ p, p = Val.add ⟨k, n, s⟩ ⟨k', n', s'⟩ := ⟨_, rfl⟩
  rw [← hp]
  unfold Val.add at hp
  obtain ⟨nu, er, hq⟩ : ∃ nu er, Val.asked ⟨k, n, s⟩ ⟨k', n', s'⟩ = (nu, er) := ⟨_, _, rfl⟩
  rw [hq] at hp
  simp only at hp
  have HQ := hide hq
  have HP := hide hp
  clear hp hq
  go_enter Tryd.func22, Tryd.ntmps22
  go_wp2_with fail
  obtain ⟨w0, hw0⟩ : ∃ x, x = ((w.alloc (.cells #[.int .u8 (k.toNat : Int), .int .i64 n, .string s] 25)).alloc (.cells #[.int .u8 (k'.toNat : Int), .int .i64 n', .string s'] 25)).alloc (.cells #[.int .u8 0, .int .i64 0, .string ⟨#[]⟩] 25) := ⟨_, rfl⟩
  rw [← hw0] at HN ⊢
  clear hw0
  with_reducible refine (asked_any k n s k' n' s' w0).mono ?_
  rintro e w1 ⟨rfl, hb1⟩
  replace HN := hide (HN.out.below hb1)
  clear hb1
  rw [HQ.out]
  unfold askV
  simp only
  by_cases hbad : er ≠ 0 ∨ nu = true
  · have HF : Hid (p = (Val.vz, er)) := HP.out.trans (if_pos hbad)
    obtain ⟨r0, r1, r2⟩ := HN.out.2.2.1.c3
    obtain ⟨f0, f1, f2⟩ := HN.out.2.2.1.f3
    have hl := HN.out.size
    by_cases he : er = 0
    · subst he
      obtain rfl : nu = true := by simpa using hbad
      clear hbad
      go_wp2_with fail
      refine bodyPost_ret (v := ansV p) (by rw [HF.out]; simp [results, Tryd.results22, go_sem, r0, r1, r2, ansV, valV, Val.vz]) rfl ⟨rfl, below_three HN.out.2.2.2 (by omega) _ _ _⟩
    · have te : ((er : Int) != 0) = true := by simp; exact he
      clear hbad he
      go_wp2_with fail
      refine bodyPost_ret (v := ansV p) (by rw [HF.out]; simp [results, Tryd.results22, go_sem, r0, r1, r2, ansV, valV, Val.vz]) rfl ⟨rfl, below_three HN.out.2.2.2 (by omega) _ _ _⟩
  · have HP1 := hide (HP.out.trans (if_neg hbad))
    obtain ⟨rfl, rfl⟩ : er = 0 ∧ nu = false := by
      constructor
      · exact Decidable.byContradiction fun h => hbad (.inl h)
      · cases nu with
        | false => rfl
        | true => exact absurd (.inr rfl) hbad
    clear hbad HP HQ
    obtain ⟨a0, a1, a2⟩ := HN.out.1.c3
    obtain ⟨b0, b1, b2⟩ := HN.out.2.1.c3

    by_cases hk : k.toNat = 2
    · have tk : ((k.toNat : Int) == 2) = true := by simp; omega
      by_cases hk' : k'.toNat = 2
      · have tk' : ((k'.toNat : Int) == 2) = true := by simp; omega
        obtain ⟨sg, sv, hsv⟩ : ∃ sg sv, addOf (decide (n < 0)) n.natAbs (decide (n' < 0)) n'.natAbs = (sg, sv) := ⟨_, _, rfl⟩
        have HL := hide (addOf_lt hsv (by omega) (by omega))
        have HF : Hid (p = Val.answer 2 (Val.signed sg sv)) := by
          show _ = _
          rw [HP1.out, if_pos ⟨hk, hk'⟩, addOf_to hsv, Val.signed_abs, Val.signed_abs]
        have HA := hide hsv
        clear hk hk' HP1 hsv
        go_wp2_with fail
        clear a0 a1 a2 b0 b1 b2
        refine wp_region_flow (fun w' => V3 w w' k n s k' n' s') 10 (by kernel_rfl) (by kernel_rfl) HN.out.drew ?_
        simp only [List.take_succ_cons, List.take_zero, List.drop_succ_cons, List.drop_zero]
        refine wpFlow_read ?_ rfl (fun w' hS => ?_) ?_
        rotate_left
        · go_simp
          rfl
        refine wpFlow_read ?_ rfl (fun w' hS => ?_) ?_
        rotate_left
        · obtain ⟨a0, a1, a2⟩ := hS.1.c3
          obtain ⟨b0, b1, b2⟩ := hS.2.1.c3
          go_simp
          rfl
        refine wpFlow_call _ _ _ rfl (fun w' hS => ?_) (fun w' (hS : (fun w' => V3 w w' k n s k' n' s') w') => ((big_any n w' h0 h1).mono fun e w2 hp => ⟨hp.1, hS.below hp.2⟩)) ?_
        · go_simp
        refine wpFlow_read ?_ rfl (fun w' hS => ?_) ?_
        rotate_left
        · go_simp
          rfl
        refine wpFlow_read ?_ rfl (fun w' hS => ?_) ?_
        rotate_left
        · obtain ⟨a0, a1, a2⟩ := hS.1.c3
          obtain ⟨b0, b1, b2⟩ := hS.2.1.c3
          go_simp
          rfl
        refine wpFlow_call _ _ _ rfl (fun w' hS => ?_) (fun w' (hS : (fun w' => V3 w w' k n s k' n' s') w') => ((big_any n' w' h0' h1').mono fun e w2 hp => ⟨hp.1, hS.below hp.2⟩)) ?_
        · go_simp
        refine wpFlow_call _ _ _ rfl (fun w' hS => ?_) (fun w' (hS : (fun w' => V3 w w' k n s k' n' s') w') => ((radd_to w' (by rw [P5]; omega) (by rw [P5]; omega) HA.out).mono fun e w2 hp => ⟨hp.1, hS.below hp.2⟩)) ?_
        · go_simp
        refine wpFlow_call _ _ _ rfl (fun w' hS => ?_) (fun w' (hS : (fun w' => V3 w w' k n s k' n' s') w') => ((answer_any 2 2 rfl sg sv w' HL.out).mono fun e w2 hp => ⟨hp.1, hS.below hp.2⟩)) ?_
        · go_simp
        unfold ansV valV
        refine wpFlow_read ?_ rfl (fun w' hS => ?_) ?_
        rotate_left
        · go_simp
          rfl
        refine wpFlow_read ?_ rfl (fun w' hS => ?_) ?_
        rotate_left
        · go_simp
          rfl
        refine wpFlow_nil fun w2 hS => ?_
        have HN := hide hS
        obtain ⟨r0, r1, r2⟩ := hS.2.2.1.c3
        obtain ⟨f0, f1, f2⟩ := hS.2.2.1.f3
        have hl := hS.size
        clear hS
        go_frame
        go_wp2_with fail
        refine bodyPost_ret (v := ansV p) (by rw [HF.out]; simp [results, Tryd.results22, go_sem, r0, r1, r2, ansV, valV]) rfl ⟨rfl, below_three HN.out.2.2.2 (by omega) _ _ _⟩
      · have tk' : ((k'.toNat : Int) == 2) = false := by simp; omega
        have hno : ¬ (k.toNat = 2 ∧ k'.toNat = 2) := fun h => hk' h.2
        clear hk hk'
        obtain ⟨sg, sv, hsv⟩ : ∃ sg sv, addOf (decide (n < 0)) (fixN k n) (decide (n' < 0)) (fixN k' n') = (sg, sv) := ⟨_, _, rfl⟩
        have HL := hide (addOf_lt hsv (fixN_lt h0 h1) (fixN_lt h0' h1'))
        have HF : Hid (p = Val.answer 3 (Val.signed sg sv)) := by
          show _ = _
          rw [HP1.out, if_neg hno, addOf_to hsv, ← signed_eq, ← signed_eq, fixN_signed ⟨k, n, s⟩, fixN_signed ⟨k', n', s'⟩]
        have HA := hide hsv
        clear hno HP1 hsv
        go_wp2_with fail
        clear a0 a1 a2 b0 b1 b2
        refine wp_region_flow (fun w' => V3 w w' k n s k' n' s') 8 (by kernel_rfl) (by kernel_rfl) HN.out.drew ?_
        simp only [List.take_succ_cons, List.take_zero, List.drop_succ_cons, List.drop_zero]
        refine wpFlow_read ?_ rfl (fun w' hS => ?_) ?_
        rotate_left
        · obtain ⟨a0, a1, a2⟩ := hS.1.c3
          obtain ⟨b0, b1, b2⟩ := hS.2.1.c3
          go_simp
          rfl
        refine wpFlow_call _ _ _ rfl (fun w' hS => ?_) (fun w' (hS : (fun w' => V3 w w' k n s k' n' s') w') => ((fixed_any k n s w' h0 h1).mono fun e w2 hp => ⟨hp.1, hS.below hp.2⟩)) ?_
        · go_simp
        refine wpFlow_read ?_ rfl (fun w' hS => ?_) ?_
        rotate_left
        · obtain ⟨a0, a1, a2⟩ := hS.1.c3
          obtain ⟨b0, b1, b2⟩ := hS.2.1.c3
          go_simp
          rfl
        refine wpFlow_call _ _ _ rfl (fun w' hS => ?_) (fun w' (hS : (fun w' => V3 w w' k n s k' n' s') w') => ((fixed_any k' n' s' w' h0' h1').mono fun e w2 hp => ⟨hp.1, hS.below hp.2⟩)) ?_
        · go_simp
        refine wpFlow_call _ _ _ rfl (fun w' hS => ?_) (fun w' (hS : (fun w' => V3 w w' k n s k' n' s') w') => ((radd_to w' (by have := fixN_lt (k := k) h0 h1; rw [P5]; omega) (by have := fixN_lt (k := k') h0' h1'; rw [P5]; omega) HA.out).mono fun e w2 hp => ⟨hp.1, hS.below hp.2⟩)) ?_
        · go_simp
        refine wpFlow_call _ _ _ rfl (fun w' hS => ?_) (fun w' (hS : (fun w' => V3 w w' k n s k' n' s') w') => ((answer_any 3 3 rfl sg sv w' HL.out).mono fun e w2 hp => ⟨hp.1, hS.below hp.2⟩)) ?_
        · go_simp
        unfold ansV valV
        refine wpFlow_read ?_ rfl (fun w' hS => ?_) ?_
        rotate_left
        · go_simp
          rfl
        refine wpFlow_read ?_ rfl (fun w' hS => ?_) ?_
        rotate_left
        · go_simp
          rfl
        refine wpFlow_nil fun w2 hS => ?_
        have HN := hide hS
        obtain ⟨r0, r1, r2⟩ := hS.2.2.1.c3
        obtain ⟨f0, f1, f2⟩ := hS.2.2.1.f3
        have hl := hS.size
        clear hS
        go_frame
        go_wp2_with fail
        refine bodyPost_ret (v := ansV p) (by rw [HF.out]; simp [results, Tryd.results22, go_sem, r0, r1, r2, ansV, valV]) rfl ⟨rfl, below_three HN.out.2.2.2 (by omega) _ _ _⟩
    · have tk : ((k.toNat : Int) == 2) = false := by simp; omega
      have hno : ¬ (k.toNat = 2 ∧ k'.toNat = 2) := fun h => hk h.1
      clear hk
      obtain ⟨sg, sv, hsv⟩ : ∃ sg sv, addOf (decide (n < 0)) (fixN k n) (decide (n' < 0)) (fixN k' n') = (sg, sv) := ⟨_, _, rfl⟩
      have HL := hide (addOf_lt hsv (fixN_lt h0 h1) (fixN_lt h0' h1'))
      have HF : Hid (p = Val.answer 3 (Val.signed sg sv)) := by
        show _ = _
        rw [HP1.out, if_neg hno, addOf_to hsv, ← signed_eq, ← signed_eq, fixN_signed ⟨k, n, s⟩, fixN_signed ⟨k', n', s'⟩]
      have HA := hide hsv
      clear hno HP1 hsv
      go_wp2_with fail
      clear a0 a1 a2 b0 b1 b2
      refine wp_region_flow (fun w' => V3 w w' k n s k' n' s') 8 (by kernel_rfl) (by kernel_rfl) HN.out.drew ?_
      simp only [List.take_succ_cons, List.take_zero, List.drop_succ_cons, List.drop_zero]
      refine wpFlow_read ?_ rfl (fun w' hS => ?_) ?_
      rotate_left
      · obtain ⟨a0, a1, a2⟩ := hS.1.c3
        obtain ⟨b0, b1, b2⟩ := hS.2.1.c3
        go_simp
        rfl
      refine wpFlow_call _ _ _ rfl (fun w' hS => ?_) (fun w' (hS : (fun w' => V3 w w' k n s k' n' s') w') => ((fixed_any k n s w' h0 h1).mono fun e w2 hp => ⟨hp.1, hS.below hp.2⟩)) ?_
      · go_simp
      refine wpFlow_read ?_ rfl (fun w' hS => ?_) ?_
      rotate_left
      · obtain ⟨a0, a1, a2⟩ := hS.1.c3
        obtain ⟨b0, b1, b2⟩ := hS.2.1.c3
        go_simp
        rfl
      refine wpFlow_call _ _ _ rfl (fun w' hS => ?_) (fun w' (hS : (fun w' => V3 w w' k n s k' n' s') w') => ((fixed_any k' n' s' w' h0' h1').mono fun e w2 hp => ⟨hp.1, hS.below hp.2⟩)) ?_
      · go_simp
      refine wpFlow_call _ _ _ rfl (fun w' hS => ?_) (fun w' (hS : (fun w' => V3 w w' k n s k' n' s') w') => ((radd_to w' (by have := fixN_lt (k := k) h0 h1; rw [P5]; omega) (by have := fixN_lt (k := k') h0' h1'; rw [P5]; omega) HA.out).mono fun e w2 hp => ⟨hp.1, hS.below hp.2⟩)) ?_
      · go_simp
      refine wpFlow_call _ _ _ rfl (fun w' hS => ?_) (fun w' (hS : (fun w' => V3 w w' k n s k' n' s') w') => ((answer_any 3 3 rfl sg sv w' HL.out).mono fun e w2 hp => ⟨hp.1, hS.below hp.2⟩)) ?_
      · go_simp
      unfold ansV valV
      refine wpFlow_read ?_ rfl (fun w' hS => ?_) ?_
      rotate_left
      · go_simp
        rfl
      refine wpFlow_read ?_ rfl (fun w' hS => ?_) ?_
      rotate_left
      · go_simp
        rfl
      refine wpFlow_nil fun w2 hS => ?_
      have HN := hide hS
      obtain ⟨r0, r1, r2⟩ := hS.2.2.1.c3
      obtain ⟨f0, f1, f2⟩ := hS.2.2.1.f3
      have hl := hS.size
      clear hS
      go_frame
      go_wp2_with fail
      refine bodyPost_ret (v := ansV p) (by rw [HF.out]; simp [results, Tryd.results22, go_sem, r0, r1, r2, ansV, valV]) rfl ⟨rfl, below_three HN.out.2.2.2 (by omega) _ _ _⟩
end Go.Proofs.YthmlfbbbcmmhdaaDoor
