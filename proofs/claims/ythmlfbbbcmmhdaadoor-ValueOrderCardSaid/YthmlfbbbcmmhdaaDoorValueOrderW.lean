/-
  The walk of chancerylaw17.ValueOrder: it returns true. Conditions: the tables are as listed. (printed by laws17.py)
-/
import Derived.Test.YthmlfbbbcmmhdaaDoorOrdLaw
import Derived.Deep.DeepCutAuto
namespace Go.Proofs.YthmlfbbbcmmhdaaDoor
open Go.RowKit

/-- What stands while the law runs: the tables, three values' blocks. -/
def O3 (w wr : World) (m : Int) (k : UInt8) (n : Int) (s : ByteArray) (k' : UInt8) (n' : Int) (s' : ByteArray) (k'' : UInt8) (n'' : Int) (s'' : ByteArray) : Prop := Env wr m ∧ TNot wr ∧ V2 w wr k n s k' n' s' ∧ Blk wr (w.heap.size + 1 + 1) 25 #[.int .u8 (k''.toNat : Int), .int .i64 n'', .string s'']
section
variable {w wr w' : World} {m : Int} {k : UInt8} {n : Int} {s : ByteArray} {k' : UInt8} {n' : Int} {s' : ByteArray} {k'' : UInt8} {n'' : Int} {s'' : ByteArray}
theorem O3.below (h : O3 w wr m k n s k' n' s' k'' n'' s'') (hb : Below wr.heap.size wr w') : O3 w w' m k n s k' n' s' k'' n'' s'' := ⟨h.1.below hb (Nat.le_refl _), h.2.1.below hb h.2.1.lt, h.2.2.1.below hb, h.2.2.2.below hb h.2.2.2.lt⟩
theorem O3.drew (h : O3 w wr m k n s k' n' s' k'' n'' s'') : O3 w { wr with drawn := wr.drawn + 1 } m k n s k' n' s' k'' n'' s'' := h.below (Below.refl _ _).drew
theorem O3.new (hE : Env w m) (hN : TNot w) : O3 w (((w.alloc (.cells #[.int .u8 (k.toNat : Int), .int .i64 n, .string s] 25)).alloc (.cells #[.int .u8 (k'.toNat : Int), .int .i64 n', .string s'] 25)).alloc (.cells #[.int .u8 (k''.toNat : Int), .int .i64 n'', .string s''] 25)) m k n s k' n' s' k'' n'' s'' := by
  have hb : Below ((w.alloc (.cells #[.int .u8 (k.toNat : Int), .int .i64 n, .string s] 25)).alloc (.cells #[.int .u8 (k'.toNat : Int), .int .i64 n', .string s'] 25)).heap.size ((w.alloc (.cells #[.int .u8 (k.toNat : Int), .int .i64 n, .string s] 25)).alloc (.cells #[.int .u8 (k'.toNat : Int), .int .i64 n', .string s'] 25)) (((w.alloc (.cells #[.int .u8 (k.toNat : Int), .int .i64 n, .string s] 25)).alloc (.cells #[.int .u8 (k'.toNat : Int), .int .i64 n', .string s'] 25)).alloc (.cells #[.int .u8 (k''.toNat : Int), .int .i64 n'', .string s''] 25)) := (Below.refl _ _).alloc (Nat.le_refl _) _
  refine ⟨((hE.alloc _).alloc _).alloc _, ?_, (V2.new w k n s k' n' s').below hb, ?_⟩
  · have hlt := Tb.lt hN
    exact Tb.below (Tb.below (Tb.below hN ((Below.refl w.heap.size w).alloc (Nat.le_refl _) _) hlt) ((Below.refl _ _).alloc (Nat.le_refl _) _) (by simp)) hb (by simp)
  · have := Blk.new ((w.alloc (.cells #[.int .u8 (k.toNat : Int), .int .i64 n, .string s] 25)).alloc (.cells #[.int .u8 (k'.toNat : Int), .int .i64 n', .string s'] 25)) 25 #[.int .u8 (k''.toNat : Int), .int .i64 n'', .string s'']
    simpa using this
end
theorem neS (v : Cell.Val) (w : World) : (binOp .neq 25 (.agg #[.int .u8 (v.k.toNat : Int), .int .i64 v.n, .string v.s]) (.agg #[.int .u8 (v.k.toNat : Int), .int .i64 v.n, .string v.s])).run Tryd.prog w = .ok (.bool false) w := (neqV w v v).trans (by rw [(vbeq_iff v v).2 rfl]; rfl)
set_option maxRecDepth 20000 in
set_option maxHeartbeats 12800000 in
theorem order3_any (k : UInt8) (n : Int) (s : ByteArray) (k' : UInt8) (n' : Int) (s' : ByteArray) (k'' : UInt8) (n'' : Int) (s'' : ByteArray) (m : Int) (w : World) (hE : Env w m) (hNt : TNot w) (_ : s.size ≤ maxLen) (h0 : -9223372036854775808 ≤ n) (h1 : n ≤ 9223372036854775807) (_ : s'.size ≤ maxLen) (h0' : -9223372036854775808 ≤ n') (h1' : n' ≤ 9223372036854775807) (_ : s''.size ≤ maxLen) (_ : -9223372036854775808 ≤ n'') (_ : n'' ≤ 9223372036854775807) :
    Calls Tryd.prog 5 #[.agg #[.int .u8 (k.toNat : Int), .int .i64 n, .string s], .agg #[.int .u8 (k'.toNat : Int), .int .i64 n', .string s'], .agg #[.int .u8 (k''.toNat : Int), .int .i64 n'', .string s'']] w fun e w' => e = .returned (.bool true) ∧ Below w.heap.size w w' := by
  have HN := hide (O3.new (w := w) (m := m) (k := k) (n := n) (s := s) (k' := k') (n' := n') (s' := s') (k'' := k'') (n'' := n'') (s'' := s'') hE hNt)
  have hany := ordV_anti ⟨k, n, s⟩ ⟨k', n', s'⟩
  have htri := tri_ordV ⟨k, n, s⟩ ⟨k', n', s'⟩ ⟨k'', n'', s''⟩
  have hrx := ordV_range ⟨k, n, s⟩ ⟨k', n', s'⟩
  have hry := ordV_range ⟨k', n', s'⟩ ⟨k'', n'', s''⟩
  have hrz := ordV_range ⟨k, n, s⟩ ⟨k'', n'', s''⟩
  have hx0 := @ordV_zero ⟨k, n, s⟩ ⟨k', n', s'⟩
  obtain ⟨x, hx⟩ : ∃ x, x = ordV ⟨k, n, s⟩ ⟨k', n', s'⟩ := ⟨_, rfl⟩
  obtain ⟨y, hy⟩ : ∃ x, x = ordV ⟨k', n', s'⟩ ⟨k'', n'', s''⟩ := ⟨_, rfl⟩
  obtain ⟨z, hz⟩ : ∃ x, x = ordV ⟨k, n, s⟩ ⟨k'', n'', s''⟩ := ⟨_, rfl⟩
  obtain ⟨tl, er, hl⟩ : ∃ t e, Val.compare 9 ⟨k, n, s⟩ ⟨k', n', s'⟩ = (t, e) := ⟨_, _, rfl⟩
  obtain ⟨te, er7, hte⟩ : ∃ t e, Val.compare 7 ⟨k, n, s⟩ ⟨k', n', s'⟩ = (t, e) := ⟨_, _, rfl⟩
  obtain ⟨tn, er8, htn⟩ : ∃ t e, Val.compare 8 ⟨k, n, s⟩ ⟨k', n', s'⟩ = (t, e) := ⟨_, _, rfl⟩
  obtain ⟨dv, de, hd⟩ : ∃ t e, Val.sub ⟨k, n, s⟩ ⟨k', n', s'⟩ = (t, e) := ⟨_, _, rfl⟩
  have k1 := @Val.cmp_err ⟨k, n, s⟩ ⟨k', n', s'⟩
  have k2 := @Val.cmp_not ⟨k, n, s⟩ ⟨k', n', s'⟩
  have k3 := @Val.sub_err ⟨k, n, s⟩ ⟨k', n', s'⟩
  have k4 := @Val.sub_sign ⟨k, n, s⟩ ⟨k', n', s'⟩
  rw [hl, hte, htn] at k1
  rw [hl, hte, htn] at k2
  rw [hl, hd] at k3
  rw [hl, hte, hd] at k4
  simp only at k1 k2 k3 k4
  obtain ⟨rfl, rfl⟩ := k1
  rw [← hx] at hany hrx hx0
  rw [← hx, ← hy, ← hz] at htri
  rw [← hy] at hry
  rw [← hz] at hrz
  have H1 := hide hx
  have H2 := hide hy
  have H3 := hide hz
  have HL := hide hl
  have HTE := hide hte
  have HTN := hide htn
  have HD := hide hd
  have HAny := hide hany
  have HTri := hide htri
  have HRx := hide hrx
  have HRy := hide hry
  have HX0 := hide hx0
  have K2 := hide k2
  have K3 := hide k3
  have K4 := hide k4
  have wx : IntKind.i64.wrap (-x) = -x := by rw [IntKind.wrap_i64]; omega
  have HB := hide (show (-9223372036854775808 ≤ n ∧ n ≤ 9223372036854775807) ∧ (-9223372036854775808 ≤ n' ∧ n' ≤ 9223372036854775807) from ⟨⟨h0, h1⟩, h0', h1'⟩)
  clear hx hy hz hl hte htn hd hany htri hrx hry hrz hx0 k2 k3 k4 hE hNt h0 h1 h0' h1'
  go_enter Tryd.func5, Tryd.ntmps5
  go_wp2_with fail
  obtain ⟨w0, hw0⟩ : ∃ x, x = (((w.alloc (.cells #[.int .u8 (k.toNat : Int), .int .i64 n, .string s] 25)).alloc (.cells #[.int .u8 (k'.toNat : Int), .int .i64 n', .string s'] 25)).alloc (.cells #[.int .u8 (k''.toNat : Int), .int .i64 n'', .string s''] 25)) := ⟨_, rfl⟩
  rw [← hw0] at HN ⊢
  clear hw0
  refine wp_region_flow (fun w' => O3 w w' m k n s k' n' s' k'' n'' s'') 9 (by kernel_rfl) (by kernel_rfl) HN.out.drew ?_
  simp only [List.take_succ_cons, List.take_zero, List.drop_succ_cons, List.drop_zero]
  refine wpFlow_read ?_ rfl (fun w' hS => ?_) ?_
  rotate_left
  · obtain ⟨a0, a1, a2⟩ := hS.2.2.1.1.c3
    obtain ⟨b0, b1, b2⟩ := hS.2.2.1.2.1.c3
    obtain ⟨c0, c1, c2⟩ := hS.2.2.2.c3
    go_simp
    rfl
  go_frame
  refine wpFlow_read ?_ rfl (fun w' hS => ?_) ?_
  rotate_left
  · obtain ⟨a0, a1, a2⟩ := hS.2.2.1.1.c3
    obtain ⟨b0, b1, b2⟩ := hS.2.2.1.2.1.c3
    obtain ⟨c0, c1, c2⟩ := hS.2.2.2.c3
    go_simp
    rfl
  go_frame
  refine wpFlow_call _ _ _ rfl (fun w' hS => ?_) (fun w' (hS : (fun w' => O3 w w' m k n s k' n' s' k'' n'' s'') w') => ((order_any k n s k' n' s' w').mono fun e w2 hp => ⟨hp.1, hS.below hp.2⟩)) ?_
  · go_simp
  go_frame
  refine wpFlow_read ?_ rfl (fun w' hS => ?_) ?_
  rotate_left
  · obtain ⟨a0, a1, a2⟩ := hS.2.2.1.1.c3
    obtain ⟨b0, b1, b2⟩ := hS.2.2.1.2.1.c3
    obtain ⟨c0, c1, c2⟩ := hS.2.2.2.c3
    go_simp
    rfl
  go_frame
  refine wpFlow_read ?_ rfl (fun w' hS => ?_) ?_
  rotate_left
  · obtain ⟨a0, a1, a2⟩ := hS.2.2.1.1.c3
    obtain ⟨b0, b1, b2⟩ := hS.2.2.1.2.1.c3
    obtain ⟨c0, c1, c2⟩ := hS.2.2.2.c3
    go_simp
    rfl
  go_frame
  refine wpFlow_call _ _ _ rfl (fun w' hS => ?_) (fun w' (hS : (fun w' => O3 w w' m k n s k' n' s' k'' n'' s'') w') => ((order_any k' n' s' k'' n'' s'' w').mono fun e w2 hp => ⟨hp.1, hS.below hp.2⟩)) ?_
  · go_simp
  go_frame
  refine wpFlow_read ?_ rfl (fun w' hS => ?_) ?_
  rotate_left
  · obtain ⟨a0, a1, a2⟩ := hS.2.2.1.1.c3
    obtain ⟨b0, b1, b2⟩ := hS.2.2.1.2.1.c3
    obtain ⟨c0, c1, c2⟩ := hS.2.2.2.c3
    go_simp
    rfl
  go_frame
  refine wpFlow_read ?_ rfl (fun w' hS => ?_) ?_
  rotate_left
  · obtain ⟨a0, a1, a2⟩ := hS.2.2.1.1.c3
    obtain ⟨b0, b1, b2⟩ := hS.2.2.1.2.1.c3
    obtain ⟨c0, c1, c2⟩ := hS.2.2.2.c3
    go_simp
    rfl
  go_frame
  refine wpFlow_call _ _ _ rfl (fun w' hS => ?_) (fun w' (hS : (fun w' => O3 w w' m k n s k' n' s' k'' n'' s'') w') => ((order_any k n s k'' n'' s'' w').mono fun e w2 hp => ⟨hp.1, hS.below hp.2⟩)) ?_
  · go_simp
  go_frame
  refine wpFlow_nil fun w1 hS => ?_
  clear HN
  have HN := hide hS
  clear hS
  rw [← H1.out, ← H2.out, ← H3.out]
  go_upto_region 2 with fail
  go_cut [7, 8, 9, 65] (fun _ _ _ r wx => r = .bool false ∧ O3 w wx m k n s k' n' s' k'' n'' s'')
  case first =>
    obtain ⟨a0, a1, a2⟩ := HN.out.2.2.1.1.c3
    obtain ⟨b0, b1, b2⟩ := HN.out.2.2.1.2.1.c3
    go_wp2_with fail
    with_reducible refine (order_any k' n' s' k n s w1).mono ?_
    rintro e w2 ⟨rfl, hbb⟩
    replace HN := hide (HN.out.below hbb)
    clear hbb a0 a1 a2 b0 b1 b2
    rw [HAny.out]
    obtain ⟨a0, a1, a2⟩ := HN.out.2.2.1.1.c3
    obtain ⟨b0, b1, b2⟩ := HN.out.2.2.1.2.1.c3
    have hrx := HRx.out
    rcases hrx with rfl | rfl | rfl
    · have hry := HRy.out
      rcases hry with rfl | rfl | rfl
      · have hz : z < 0 := by have := HTri.out; unfold Tri at this; omega
        have t1 : decide (0 < z) = false := by simp; omega
        have t2 : decide (0 ≤ z) = false := by simp; omega
        clear hz
        go_wp2_with fail
        go_meet
        exact ⟨rfl, HN.out⟩
      · have hz : z < 0 := by have := HTri.out; unfold Tri at this; omega
        have t1 : decide (0 < z) = false := by simp; omega
        have t2 : decide (0 ≤ z) = false := by simp; omega
        clear hz
        go_wp2_with fail
        go_meet
        exact ⟨rfl, HN.out⟩
      · go_wp2_with fail
        go_meet
        exact ⟨rfl, HN.out⟩
    · have he := HX0.out rfl
      injection he with e1 e2 e3
      subst e1 e2 e3
      have q1 := neS ⟨k, n, s⟩ w2
      simp only at q1
      have hry := HRy.out
      rcases hry with rfl | rfl | rfl
      · have hz : z < 0 := by have := HTri.out; unfold Tri at this; omega
        have t1 : decide (0 < z) = false := by simp; omega
        clear hz
        go_wp2_with fail
        go_meet
        exact ⟨rfl, HN.out⟩
      · have hz : z = 0 := by have := HTri.out; unfold Tri at this; omega
        subst hz
        go_wp2_with fail
        go_meet
        exact ⟨rfl, HN.out⟩
      · go_wp2_with fail
        go_meet
        exact ⟨rfl, HN.out⟩
    · go_wp2_with fail
      go_meet
      exact ⟨rfl, HN.out⟩
  case rest =>
    obtain ⟨rfl, hO⟩ := hcut
    clear HN wx
    have HN := hide hO
    clear hO
    obtain ⟨a0, a1, a2⟩ := HN.out.2.2.1.1.c3
    obtain ⟨b0, b1, b2⟩ := HN.out.2.2.1.2.1.c3
    have hl := HN.out.2.2.1.2.1.lt
    go_wp2_with fail
    with_reducible refine (vSub_any k n s k' n' s' _ HB.out.1.1 HB.out.1.2 HB.out.2.1 HB.out.2.2).mono ?_
    rintro e w3 ⟨rfl, hbb⟩
    replace HN := hide (HN.out.below hbb)
    clear hbb a0 a1 a2 b0 b1 b2 hl
    rw [HD.out]
    unfold ansV valV
    simp only
    obtain ⟨a0, a1, a2⟩ := HN.out.2.2.1.1.c3
    obtain ⟨b0, b1, b2⟩ := HN.out.2.2.1.2.1.c3
    have hl := HN.out.2.2.1.2.1.lt
    go_upto_region 5 with fail
    obtain ⟨g, hg⟩ : ∃ g, g = w3.heap.size := ⟨_, rfl⟩
    obtain ⟨u3, hu⟩ : ∃ z, z = w3.alloc (.cells #[.int .u8 (dv.k.toNat : Int), .int .i64 dv.n, .string dv.s] 25) := ⟨_, rfl⟩
    rw [← hg, ← hu]
    have HG : Hid (Blk u3 g 25 (vc dv)) := by rw [hu, hg]; exact Blk.new _ _ _
    replace HN := hide (show O3 w u3 m k n s k' n' s' k'' n'' s'' by rw [hu]; exact HN.out.below ((Below.refl _ _).alloc (Nat.le_refl _) _))
    clear hg hu a0 a1 a2 b0 b1 b2 hl
    obtain ⟨a0, a1, a2⟩ := HN.out.2.2.1.1.c3
    obtain ⟨b0, b1, b2⟩ := HN.out.2.2.1.2.1.c3
    have hl := HN.out.2.2.1.2.1.lt
    go_wp2_with fail
    refine (vCompare_any 9 k n s k' n' s' u3 HB.out.1.1 HB.out.1.2 HB.out.2.1 HB.out.2.2).mono ?_
    rintro e w4 ⟨rfl, hbb⟩
    replace HN := hide (HN.out.below hbb)
    replace HG := hide (HG.out.below hbb HG.out.lt)
    clear hbb a0 a1 a2 b0 b1 b2 hl
    rw [HL.out]
    unfold truV
    simp only
    obtain ⟨a0, a1, a2⟩ := HN.out.2.2.1.1.c3
    obtain ⟨b0, b1, b2⟩ := HN.out.2.2.1.2.1.c3
    have hl := HN.out.2.2.1.2.1.lt
    go_wp2_with fail
    refine (vCompare_any 7 k n s k' n' s' w4 HB.out.1.1 HB.out.1.2 HB.out.2.1 HB.out.2.2).mono ?_
    rintro e w5 ⟨rfl, hbb⟩
    replace HN := hide (HN.out.below hbb)
    replace HG := hide (HG.out.below hbb HG.out.lt)
    clear hbb a0 a1 a2 b0 b1 b2 hl
    rw [HTE.out]
    unfold truV
    simp only
    obtain ⟨a0, a1, a2⟩ := HN.out.2.2.1.1.c3
    obtain ⟨b0, b1, b2⟩ := HN.out.2.2.1.2.1.c3
    have hl := HN.out.2.2.1.2.1.lt
    go_wp2_with fail
    refine (vCompare_any 8 k n s k' n' s' w5 HB.out.1.1 HB.out.1.2 HB.out.2.1 HB.out.2.2).mono ?_
    rintro e w6 ⟨rfl, hbb⟩
    replace HN := hide (HN.out.below hbb)
    replace HG := hide (HG.out.below hbb HG.out.lt)
    clear hbb a0 a1 a2 b0 b1 b2 hl
    rw [HTN.out]
    unfold truV
    simp only
    obtain ⟨a0, a1, a2⟩ := HN.out.2.2.1.1.c3
    obtain ⟨b0, b1, b2⟩ := HN.out.2.2.1.2.1.c3
    have hl := HN.out.2.2.1.2.1.lt
    obtain ⟨d0, d1, d2⟩ : w6.cell? ⟨g, 0, none⟩ = some (.int .u8 (dv.k.toNat : Int)) ∧ w6.cell? ⟨g, 1, none⟩ = some (.int .i64 dv.n) ∧ w6.cell? ⟨g, 2, none⟩ = some (.string dv.s) := HG.out.c3
    by_cases he : er8 = 0
    · have htn := K2.out he
      have HK := hide htn
      subst he
      clear htn a0 a1 a2 b0 b1 b2
      have hnot := hide HN.out.2.1
      go_wp2_with fail
      with_reducible refine (vNot_any te w6 hnot.out).mono ?_
      rintro e wq ⟨rfl, rfl⟩
      rw [← HK.out]
      by_cases hd0 : de = 0
      · subst hd0
        by_cases hk0 : dv.k.toNat = 0
        · have t1 : ((dv.k.toNat : Int) == 0) = true := by simp; omega
          clear hk0
          have HEv := hide HN.out.1
          go_wp2_with fail
          with_reducible refine (awake_any m w6 HEv.out).mono ?_
          rintro e wz ⟨rfl, hbz⟩
          have HZ := hide (HN.out.2.2.1.2.2.trans (hbz.mono HN.out.2.2.1.2.2.size))
          clear hbz
          go_wp2_with fail
          go_ret
          exact ⟨rfl, HZ.out⟩
        · have t1 : ((dv.k.toNat : Int) == 0) = false := by simp; omega
          obtain ⟨-, s1, s2⟩ := K4.out rfl hk0
          clear hk0
          have HEv := hide HN.out.1
          go_wp2_with fail
          with_reducible refine (awake_any m w6 HEv.out).mono ?_
          rintro e wz ⟨rfl, hbz⟩
          have HZ := hide (HN.out.2.2.1.2.2.trans (hbz.mono HN.out.2.2.1.2.2.size))
          clear hbz
          go_wp2_with fail
          go_ret
          exact ⟨rfl, HZ.out⟩
      · have t1 : ((de : Int) != 0) = true := by simp; exact hd0
        clear hd0
        have HEv := hide HN.out.1
        go_wp2_with fail
        with_reducible refine (awake_any m w6 HEv.out).mono ?_
        rintro e wz ⟨rfl, hbz⟩
        have HZ := hide (HN.out.2.2.1.2.2.trans (hbz.mono HN.out.2.2.1.2.2.size))
        clear hbz
        go_wp2_with fail
        go_ret
        exact ⟨rfl, HZ.out⟩
    · have t0 : ((er8 : Int) == 0) = false := by simp; exact he
      have t1 : ((de : Int) != 0) = true := by have := K3.out he; simp; exact this
      clear he a0 a1 a2 b0 b1 b2
      have HEv := hide HN.out.1
      go_wp2_with fail
      with_reducible refine (awake_any m w6 HEv.out).mono ?_
      rintro e wz ⟨rfl, hbz⟩
      have HZ := hide (HN.out.2.2.1.2.2.trans (hbz.mono HN.out.2.2.1.2.2.size))
      clear hbz
      go_wp2_with fail
      go_ret
      exact ⟨rfl, HZ.out⟩
end Go.Proofs.YthmlfbbbcmmhdaaDoor
