/-
  The walk of chancerylaw18.CellOrder: it returns true. Conditions: the numbers are of 64 bits.
-/
import Derived.Test.YtccapkkaeljnfaaOrdMath
import Derived.Test.YtccapkkaeljnfaaAwake18
namespace Go.Proofs.Ytccapkkaeljnfaa
open Go.RowKit

set_option maxRecDepth 20000 in
set_option maxHeartbeats 8000000 in
theorem cellOrder_any (k : UInt8) (n : Int) (s : ByteArray) (k' : UInt8) (n' : Int) (s' : ByteArray) (w : World) (_u1 : s.size ≤ maxLen) (ha1 : -9223372036854775808 ≤ n) (ha2 : n ≤ 9223372036854775807) (_u2 : s'.size ≤ maxLen) (hb1 : -9223372036854775808 ≤ n') (hb2 : n' ≤ 9223372036854775807) :
    Calls Try.prog 7 #[.agg #[.int .u8 (k.toNat : Int), .int .i64 n, .string s], .agg #[.int .u8 (k'.toNat : Int), .int .i64 n', .string s']] w fun e w' => e = .returned (.bool true) ∧ Below w.heap.size w w' := by
  have HBa : Hid (Bd ⟨k, n, s⟩) := ⟨ha1, ha2⟩
  have HBb : Hid (Bd ⟨k', n', s'⟩) := ⟨hb1, hb2⟩
  clear _u1 _u2 ha1 ha2 hb1 hb2
  obtain ⟨p1, kb, hp⟩ : ∃ p1 kb, Cell.key ⟨k, n, s⟩ = (p1, kb) := ⟨_, _, rfl⟩
  obtain ⟨q1, lb, hq⟩ : ∃ q1 lb, Cell.key ⟨k', n', s'⟩ = (q1, lb) := ⟨_, _, rfl⟩
  have HKa := hide hp
  have HKb := hide hq
  clear hp hq
  go_enter Try.func7, Try.ntmps7
  go_wp2_with fail
  obtain ⟨w0, hw0⟩ : ∃ w0, w0 = (w.alloc (.cells #[.int .u8 (k.toNat : Int), .int .i64 n, .string s] 36)).alloc (.cells #[.int .u8 (k'.toNat : Int), .int .i64 n', .string s'] 36) := ⟨_, rfl⟩
  rw [← hw0]
  have HP : Hid (Blk w0 w.heap.size 36 #[.int .u8 (k.toNat : Int), .int .i64 n, .string s]) := by rw [hw0]; exact (Blk.new w _ _).alloc _
  have HV : Hid (Blk w0 (w.heap.size + 1) 36 #[.int .u8 (k'.toNat : Int), .int .i64 n', .string s']) := by
    rw [hw0]
    have := Blk.new (w.alloc (.cells #[.int .u8 (k.toNat : Int), .int .i64 n, .string s] 36)) 36 #[.int .u8 (k'.toNat : Int), .int .i64 n', .string s']
    show Blk _ _ _ _
    simpa using this
  have HB0 : Hid (Below w.heap.size w w0) := by rw [hw0]; exact ((Below.refl _ _).alloc (Nat.le_refl _) _).alloc (by simp) _
  have hz0 : w.heap.size + 2 ≤ w0.heap.size := by rw [hw0]; simp
  clear hw0
  with_reducible refine (key_any k n s w0).mono ?_
  rintro e w1 hpost
  obtain ⟨A1, c1, rfl, ho1, hb1, hl1, hm1⟩ := hpost.is HKa.out
  clear hpost
  have HR1 := hide (Rb.own ho1)
  clear ho1
  replace HP := hide (HP.out.below hb1 (by omega))
  replace HV := hide (HV.out.below hb1 (by omega))
  have HB1 := hide (HB0.out.trans (hb1.mono (by omega)))
  have hz1 := hb1.size
  clear hb1 HB0
  have g0 : w1.cell? ⟨w.heap.size + 1, 0, none⟩ = some (.int .u8 (k'.toNat : Int)) := HV.out.cell 0
  have g1 : w1.cell? ⟨w.heap.size + 1, 1, none⟩ = some (.int .i64 n') := HV.out.cell 1
  have g2 : w1.cell? ⟨w.heap.size + 1, 2, none⟩ = some (.string s') := HV.out.cell 2
  go_wp2_with fail
  clear g0 g1 g2
  with_reducible refine (key_any k' n' s' w1).mono ?_
  rintro e w2 hpost
  obtain ⟨A2, c2, rfl, ho2, hb2, hl2, hm2⟩ := hpost.is HKb.out
  clear hpost
  have HR2 := hide (Rb.own ho2)
  clear ho2
  replace HP := hide (HP.out.below hb2 (by omega))
  replace HV := hide (HV.out.below hb2 (by omega))
  replace HR1 := hide (HR1.out.below hb2 (by omega))
  have HB2 := hide (HB1.out.trans (hb2.mono (by omega)))
  have hz2 := hb2.size
  clear hb2 HB1
  by_cases h1 : p1 = 0
  · subst h1
    by_cases h2 : q1 = 0
    · subst h2
      have HKO := hide (key_order HKa.out HKb.out HBa.out HBb.out)
      obtain ⟨cc, hcc⟩ : ∃ x, x = cmpB kb lb := ⟨_, rfl⟩
      have HCC := hide hcc
      clear hcc
      go_wp2_with fail
      refine wp_region_still_tail 5 (by kernel_rfl) (by kernel_rfl) ?_
      obtain ⟨w3, hw3⟩ : ∃ x : World, x = { w2 with drawn := w2.drawn + 1 } := ⟨_, rfl⟩
      rw [← hw3]
      have hq3 : w3 = w2.drewN 1 := hw3
      replace HP := hide (HP.out.drewE hq3)
      replace HV := hide (HV.out.drewE hq3)
      replace HR1 := hide (HR1.out.drewE hq3)
      replace HR2 := hide (HR2.out.drewE hq3)
      have HB3 := hide (Below.drewE HB2.out hq3)
      have hz3 : w2.heap.size ≤ w3.heap.size := by rw [hw3]; exact Nat.le_refl _
      clear hw3 hq3 HB2
      have d0 : w3.cell? ⟨w.heap.size, 0, none⟩ = some (.int .u8 (k.toNat : Int)) := HP.out.cell 0
      have d1 : w3.cell? ⟨w.heap.size, 1, none⟩ = some (.int .i64 n) := HP.out.cell 1
      have d2 : w3.cell? ⟨w.heap.size, 2, none⟩ = some (.string s) := HP.out.cell 2
      have g0 : w3.cell? ⟨w.heap.size + 1, 0, none⟩ = some (.int .u8 (k'.toNat : Int)) := HV.out.cell 0
      have g1 : w3.cell? ⟨w.heap.size + 1, 1, none⟩ = some (.int .i64 n') := HV.out.cell 1
      have g2 : w3.cell? ⟨w.heap.size + 1, 2, none⟩ = some (.string s') := HV.out.cell 2
      simp only [List.take_succ_cons, List.take_zero, List.drop_succ_cons, List.drop_zero]
      iterate 2 still_step
      still_call ((bcompare_any A1 A2 _ c1 _ c2 kb lb _ _ _ HR1.out HR2.out).mono fun _ _ h => ⟨h.1, h.2.symm⟩)
      iterate 2 still_step
      refine wpStill_nil ?_
      rw [← HCC.out]
      clear d0 d1 d2 g0 g1 g2
      go_wp2_with fail
      with_reducible refine (order_any k n s k' n' s' w3).mono ?_
      rintro e w4 ⟨rfl, hb4⟩
      rw [← HKO.out, ← HCC.out]
      replace HP := hide (HP.out.below hb4 (by omega))
      replace HV := hide (HV.out.below hb4 (by omega))
      replace HR1 := hide (HR1.out.below hb4 (by omega))
      replace HR2 := hide (HR2.out.below hb4 (by omega))
      have HB4 := hide (HB3.out.trans (hb4.mono (by omega)))
      have hz4 := hb4.size
      clear hb4 HB3
      have t3 : (cc != cc) = false := by simp
      have d0 : w4.cell? ⟨w.heap.size, 0, none⟩ = some (.int .u8 (k.toNat : Int)) := HP.out.cell 0
      have d1 : w4.cell? ⟨w.heap.size, 1, none⟩ = some (.int .i64 n) := HP.out.cell 1
      have d2 : w4.cell? ⟨w.heap.size, 2, none⟩ = some (.string s) := HP.out.cell 2
      have g0 : w4.cell? ⟨w.heap.size + 1, 0, none⟩ = some (.int .u8 (k'.toNat : Int)) := HV.out.cell 0
      have g1 : w4.cell? ⟨w.heap.size + 1, 1, none⟩ = some (.int .i64 n') := HV.out.cell 1
      have g2 : w4.cell? ⟨w.heap.size + 1, 2, none⟩ = some (.string s') := HV.out.cell 2
      obtain ⟨qv, hqv⟩ : ∃ q, q = vbeq ⟨k, n, s⟩ ⟨k', n', s'⟩ := ⟨_, rfl⟩
      have e1 : ∀ w, (binOp .eql 36 (.agg #[.int .u8 (k.toNat : Int), .int .i64 n, .string s]) (.agg #[.int .u8 (k'.toNat : Int), .int .i64 n', .string s'])).run Try.prog w = .ok (.bool qv) w := by
        intro w
        rw [hqv]
        exact eqlV w ⟨k, n, s⟩ ⟨k', n', s'⟩
      have e2 := guardV
      have HQV := hide hqv
      clear hqv
      cases qv
      · have HNP : Hid (lb.isPrefixOf kb = false) := by
          show _ = _
          rw [Bool.eq_false_iff]
          intro hp
          obtain ⟨r, hr⟩ := List.isPrefixOf_iff_prefix.1 hp
          have := (key_prefix (r := r) HKa.out HKb.out HBa.out HBb.out [] (by rw [List.append_nil]; exact hr)).1
          have h2 := (vbeq_iff _ _).2 this
          rw [← HQV.out] at h2
          cases h2
        go_wp2_with fail
        with_reducible refine (hasPrefix_any A1 A2 kb.length c1 lb.length c2 kb lb w4 _ _ HR1.out HR2.out hl1).mono ?_
        rintro e w' ⟨rfl, rfl⟩
        rw [HNP.out]
        clear d0 d1 d2 g0 g1 g2
        go_wp2_with fail
        with_reducible refine (awake_any w4).mono ?_
        rintro e w5 ⟨rfl, hb5⟩
        replace HP := hide (HP.out.below hb5 (by omega))
        replace HV := hide (HV.out.below hb5 (by omega))
        replace HR1 := hide (HR1.out.below hb5 (by omega))
        replace HR2 := hide (HR2.out.below hb5 (by omega))
        have HB5 := hide (HB4.out.trans (hb5.mono (by omega)))
        have hz5 := hb5.size
        clear hb5 HB4
        go_wp2_with fail
        go_ret
        exact ⟨rfl, HB5.out⟩
      · go_wp2_with fail
        with_reducible refine (awake_any w4).mono ?_
        rintro e w5 ⟨rfl, hb5⟩
        replace HP := hide (HP.out.below hb5 (by omega))
        replace HV := hide (HV.out.below hb5 (by omega))
        replace HR1 := hide (HR1.out.below hb5 (by omega))
        replace HR2 := hide (HR2.out.below hb5 (by omega))
        have HB5 := hide (HB4.out.trans (hb5.mono (by omega)))
        have hz5 := hb5.size
        clear hb5 HB4
        go_wp2_with fail
        go_ret
        exact ⟨rfl, HB5.out⟩
    · have t2 : ((q1 : Int) != 0) = true := by simp; exact h2
      clear h2
      go_wp2_with fail
      with_reducible refine (awake_any w2).mono ?_
      rintro e w3 ⟨rfl, hb3⟩
      replace HP := hide (HP.out.below hb3 (by omega))
      replace HV := hide (HV.out.below hb3 (by omega))
      replace HR1 := hide (HR1.out.below hb3 (by omega))
      replace HR2 := hide (HR2.out.below hb3 (by omega))
      have HB3 := hide (HB2.out.trans (hb3.mono (by omega)))
      have hz3 := hb3.size
      clear hb3 HB2
      go_wp2_with fail
      go_ret
      exact ⟨rfl, HB3.out⟩
  · have t1 : ((p1 : Int) != 0) = true := by simp; exact h1
    clear h1
    go_wp2_with fail
    with_reducible refine (awake_any w2).mono ?_
    rintro e w3 ⟨rfl, hb3⟩
    replace HP := hide (HP.out.below hb3 (by omega))
    replace HV := hide (HV.out.below hb3 (by omega))
    replace HR1 := hide (HR1.out.below hb3 (by omega))
    replace HR2 := hide (HR2.out.below hb3 (by omega))
    have HB3 := hide (HB2.out.trans (hb3.mono (by omega)))
    have hz3 := hb3.size
    clear hb3 HB2
    go_wp2_with fail
    go_ret
    exact ⟨rfl, HB3.out⟩
end Go.Proofs.Ytccapkkaeljnfaa
