/-
  The walk of chancerylaw17.ValueReckons: it returns true. Conditions: the tables are as listed. (printed by laws17.py)
-/
import Derived.Test.YthmlfbbbcmmhdaaDoorLaw17
namespace Go.Proofs.YthmlfbbbcmmhdaaDoor
open Go.RowKit

set_option maxRecDepth 20000 in
set_option maxHeartbeats 6400000 in
theorem reckons_any (k : UInt8) (n : Int) (s : ByteArray) (k' : UInt8) (n' : Int) (s' : ByteArray) (m : Int) (w : World) (hE : Env w m) (_ : s.size ≤ maxLen) (h0 : -9223372036854775808 ≤ n) (h1 : n ≤ 9223372036854775807) (_ : s'.size ≤ maxLen) (hb0 : -9223372036854775808 ≤ n') (hb1 : n' ≤ 9223372036854775807) :
    Calls Tryd.prog 6 #[.agg #[.int .u8 (k.toNat : Int), .int .i64 n, .string s], .agg #[.int .u8 (k'.toNat : Int), .int .i64 n', .string s']] w fun e w' => e = .returned (.bool true) ∧ Below w.heap.size w w' := by
  have HN := hide (L2.new w m k n s k' n' s' hE)
  obtain ⟨v1, e1, h1'⟩ : ∃ v e, Val.add ⟨k, n, s⟩ ⟨k', n', s'⟩ = (v, e) := ⟨_, _, rfl⟩
  obtain ⟨v2, e2, h2'⟩ : ∃ v e, Val.sub ⟨k, n, s⟩ ⟨k', n', s'⟩ = (v, e) := ⟨_, _, rfl⟩
  obtain ⟨v3, e3, h3'⟩ : ∃ v e, Val.mul ⟨k, n, s⟩ ⟨k', n', s'⟩ = (v, e) := ⟨_, _, rfl⟩
  obtain ⟨v4, e4, h4'⟩ : ∃ v e, Val.neg ⟨k, n, s⟩ = (v, e) := ⟨_, _, rfl⟩
  have H1 := hide h1'
  have H2 := hide h2'
  have H3 := hide h3'
  have H4 := hide h4'
  clear h1' h2' h3' h4' hE
  go_enter Tryd.func6, Tryd.ntmps6
  go_wp2_with fail
  obtain ⟨w0, hw0⟩ : ∃ x, x = (w.alloc (.cells #[.int .u8 (k.toNat : Int), .int .i64 n, .string s] 25)).alloc (.cells #[.int .u8 (k'.toNat : Int), .int .i64 n', .string s'] 25) := ⟨_, rfl⟩
  rw [← hw0] at HN ⊢
  clear hw0
  have HL := hide (BL.nil w0)
  with_reducible refine (vAdd_any k n s k' n' s' w0 h0 h1 hb0 hb1).mono ?_
  rintro e x0 ⟨rfl, hbb⟩
  replace HN := hide (HN.out.below hbb)
  replace HL := hide (HL.out.below hbb)
  clear hbb
  rw [H1.out]
  unfold ansV valV
  simp only
  obtain ⟨a0, a1, a2⟩ := HN.out.2.1.c3
  obtain ⟨b0, b1, b2⟩ := HN.out.2.2.1.c3
  have hl := HN.out.2.2.1.lt
  go_upto_region 2 with fail
  obtain ⟨g0, hg0⟩ : ∃ g, g = x0.heap.size := ⟨_, rfl⟩
  obtain ⟨u0, hu0⟩ : ∃ z, z = x0.alloc (.cells #[.int .u8 (v1.k.toNat : Int), .int .i64 v1.n, .string v1.s] 25) := ⟨_, rfl⟩
  rw [← hg0, ← hu0]
  have HL2 := hide (HL.out.push v1)
  clear HL
  have HL : Hid (BL u0 ((g0, v1) :: [])) := by rw [hu0, hg0]; exact HL2.out
  replace HN := hide (show L2 w u0 m k n s k' n' s' by rw [hu0]; exact HN.out.below ((Below.refl _ _).alloc (Nat.le_refl _) _))
  clear HL2 hg0 hu0 a0 a1 a2 b0 b1 b2 hl
  obtain ⟨a0, a1, a2⟩ := HN.out.2.1.c3
  obtain ⟨b0, b1, b2⟩ := HN.out.2.2.1.c3
  have hl := HN.out.2.2.1.lt
  go_wp2_with fail
  with_reducible refine (vSub_any k n s k' n' s' u0 h0 h1 hb0 hb1).mono ?_
  rintro e x1 ⟨rfl, hbb⟩
  replace HN := hide (HN.out.below hbb)
  replace HL := hide (HL.out.below hbb)
  clear hbb a0 a1 a2 b0 b1 b2 hl
  rw [H2.out]
  unfold ansV valV
  simp only
  obtain ⟨a0, a1, a2⟩ := HN.out.2.1.c3
  obtain ⟨b0, b1, b2⟩ := HN.out.2.2.1.c3
  have hl := HN.out.2.2.1.lt
  go_upto_region 3 with fail
  obtain ⟨g1, hg1⟩ : ∃ g, g = x1.heap.size := ⟨_, rfl⟩
  obtain ⟨u1, hu1⟩ : ∃ z, z = x1.alloc (.cells #[.int .u8 (v2.k.toNat : Int), .int .i64 v2.n, .string v2.s] 25) := ⟨_, rfl⟩
  rw [← hg1, ← hu1]
  have HL2 := hide (HL.out.push v2)
  clear HL
  have HL : Hid (BL u1 ((g1, v2) :: (g0, v1) :: [])) := by rw [hu1, hg1]; exact HL2.out
  replace HN := hide (show L2 w u1 m k n s k' n' s' by rw [hu1]; exact HN.out.below ((Below.refl _ _).alloc (Nat.le_refl _) _))
  clear HL2 hg1 hu1 a0 a1 a2 b0 b1 b2 hl
  obtain ⟨a0, a1, a2⟩ := HN.out.2.1.c3
  obtain ⟨b0, b1, b2⟩ := HN.out.2.2.1.c3
  have hl := HN.out.2.2.1.lt
  go_wp2_with fail
  with_reducible refine (vMul_any k n s k' n' s' u1 h0 h1 hb0 hb1).mono ?_
  rintro e x2 ⟨rfl, hbb⟩
  replace HN := hide (HN.out.below hbb)
  replace HL := hide (HL.out.below hbb)
  clear hbb a0 a1 a2 b0 b1 b2 hl
  rw [H3.out]
  unfold ansV valV
  simp only
  obtain ⟨a0, a1, a2⟩ := HN.out.2.1.c3
  obtain ⟨b0, b1, b2⟩ := HN.out.2.2.1.c3
  have hl := HN.out.2.2.1.lt
  go_upto_region 4 with fail
  obtain ⟨g2, hg2⟩ : ∃ g, g = x2.heap.size := ⟨_, rfl⟩
  obtain ⟨u2, hu2⟩ : ∃ z, z = x2.alloc (.cells #[.int .u8 (v3.k.toNat : Int), .int .i64 v3.n, .string v3.s] 25) := ⟨_, rfl⟩
  rw [← hg2, ← hu2]
  have HL2 := hide (HL.out.push v3)
  clear HL
  have HL : Hid (BL u2 ((g2, v3) :: (g1, v2) :: (g0, v1) :: [])) := by rw [hu2, hg2]; exact HL2.out
  replace HN := hide (show L2 w u2 m k n s k' n' s' by rw [hu2]; exact HN.out.below ((Below.refl _ _).alloc (Nat.le_refl _) _))
  clear HL2 hg2 hu2 a0 a1 a2 b0 b1 b2 hl
  obtain ⟨a0, a1, a2⟩ := HN.out.2.1.c3
  obtain ⟨b0, b1, b2⟩ := HN.out.2.2.1.c3
  have hl := HN.out.2.2.1.lt
  go_wp2_with fail
  with_reducible refine (vNeg_any k n s u2 h0 h1).mono ?_
  rintro e x3 ⟨rfl, hbb⟩
  replace HN := hide (HN.out.below hbb)
  replace HL := hide (HL.out.below hbb)
  clear hbb a0 a1 a2 b0 b1 b2 hl
  rw [H4.out]
  unfold ansV valV
  simp only
  obtain ⟨a0, a1, a2⟩ := HN.out.2.1.c3
  obtain ⟨b0, b1, b2⟩ := HN.out.2.2.1.c3
  have hl := HN.out.2.2.1.lt
  go_upto_region 5 with fail
  obtain ⟨g3, hg3⟩ : ∃ g, g = x3.heap.size := ⟨_, rfl⟩
  obtain ⟨u3, hu3⟩ : ∃ z, z = x3.alloc (.cells #[.int .u8 (v4.k.toNat : Int), .int .i64 v4.n, .string v4.s] 25) := ⟨_, rfl⟩
  rw [← hg3, ← hu3]
  have HL2 := hide (HL.out.push v4)
  clear HL
  have HL : Hid (BL u3 ((g3, v4) :: (g2, v3) :: (g1, v2) :: (g0, v1) :: [])) := by rw [hu3, hg3]; exact HL2.out
  replace HN := hide (show L2 w u3 m k n s k' n' s' by rw [hu3]; exact HN.out.below ((Below.refl _ _).alloc (Nat.le_refl _) _))
  clear HL2 hg3 hu3 a0 a1 a2 b0 b1 b2 hl
  obtain ⟨a0, a1, a2⟩ := HN.out.2.1.c3
  obtain ⟨b0, b1, b2⟩ := HN.out.2.2.1.c3
  have hl := HN.out.2.2.1.lt
  go_wp2_with fail
  with_reducible refine (rAdd_any k n s k' n' s' u3 h0 h1 hb0 hb1).mono ?_
  rintro e x4 ⟨rfl, hbb⟩
  replace HN := hide (HN.out.below hbb)
  replace HL := hide (HL.out.below hbb)
  clear hbb a0 a1 a2 b0 b1 b2 hl
  rw [H1.out]
  unfold ansV valV
  simp only
  obtain ⟨a0, a1, a2⟩ := HN.out.2.1.c3
  obtain ⟨b0, b1, b2⟩ := HN.out.2.2.1.c3
  have hl := HN.out.2.2.1.lt
  go_upto_region 6 with fail
  obtain ⟨g4, hg4⟩ : ∃ g, g = x4.heap.size := ⟨_, rfl⟩
  obtain ⟨u4, hu4⟩ : ∃ z, z = x4.alloc (.cells #[.int .u8 (v1.k.toNat : Int), .int .i64 v1.n, .string v1.s] 25) := ⟨_, rfl⟩
  rw [← hg4, ← hu4]
  have HL2 := hide (HL.out.push v1)
  clear HL
  have HL : Hid (BL u4 ((g4, v1) :: (g3, v4) :: (g2, v3) :: (g1, v2) :: (g0, v1) :: [])) := by rw [hu4, hg4]; exact HL2.out
  replace HN := hide (show L2 w u4 m k n s k' n' s' by rw [hu4]; exact HN.out.below ((Below.refl _ _).alloc (Nat.le_refl _) _))
  clear HL2 hg4 hu4 a0 a1 a2 b0 b1 b2 hl
  obtain ⟨a0, a1, a2⟩ := HN.out.2.1.c3
  obtain ⟨b0, b1, b2⟩ := HN.out.2.2.1.c3
  have hl := HN.out.2.2.1.lt
  go_wp2_with fail
  with_reducible refine (rSub_any k n s k' n' s' u4 h0 h1 hb0 hb1).mono ?_
  rintro e x5 ⟨rfl, hbb⟩
  replace HN := hide (HN.out.below hbb)
  replace HL := hide (HL.out.below hbb)
  clear hbb a0 a1 a2 b0 b1 b2 hl
  rw [H2.out]
  unfold ansV valV
  simp only
  obtain ⟨a0, a1, a2⟩ := HN.out.2.1.c3
  obtain ⟨b0, b1, b2⟩ := HN.out.2.2.1.c3
  have hl := HN.out.2.2.1.lt
  go_upto_region 7 with fail
  obtain ⟨g5, hg5⟩ : ∃ g, g = x5.heap.size := ⟨_, rfl⟩
  obtain ⟨u5, hu5⟩ : ∃ z, z = x5.alloc (.cells #[.int .u8 (v2.k.toNat : Int), .int .i64 v2.n, .string v2.s] 25) := ⟨_, rfl⟩
  rw [← hg5, ← hu5]
  have HL2 := hide (HL.out.push v2)
  clear HL
  have HL : Hid (BL u5 ((g5, v2) :: (g4, v1) :: (g3, v4) :: (g2, v3) :: (g1, v2) :: (g0, v1) :: [])) := by rw [hu5, hg5]; exact HL2.out
  replace HN := hide (show L2 w u5 m k n s k' n' s' by rw [hu5]; exact HN.out.below ((Below.refl _ _).alloc (Nat.le_refl _) _))
  clear HL2 hg5 hu5 a0 a1 a2 b0 b1 b2 hl
  obtain ⟨a0, a1, a2⟩ := HN.out.2.1.c3
  obtain ⟨b0, b1, b2⟩ := HN.out.2.2.1.c3
  have hl := HN.out.2.2.1.lt
  go_wp2_with fail
  with_reducible refine (rMul_any k n s k' n' s' u5 h0 h1 hb0 hb1).mono ?_
  rintro e x6 ⟨rfl, hbb⟩
  replace HN := hide (HN.out.below hbb)
  replace HL := hide (HL.out.below hbb)
  clear hbb a0 a1 a2 b0 b1 b2 hl
  rw [H3.out]
  unfold ansV valV
  simp only
  obtain ⟨a0, a1, a2⟩ := HN.out.2.1.c3
  obtain ⟨b0, b1, b2⟩ := HN.out.2.2.1.c3
  have hl := HN.out.2.2.1.lt
  go_upto_region 8 with fail
  obtain ⟨g6, hg6⟩ : ∃ g, g = x6.heap.size := ⟨_, rfl⟩
  obtain ⟨u6, hu6⟩ : ∃ z, z = x6.alloc (.cells #[.int .u8 (v3.k.toNat : Int), .int .i64 v3.n, .string v3.s] 25) := ⟨_, rfl⟩
  rw [← hg6, ← hu6]
  have HL2 := hide (HL.out.push v3)
  clear HL
  have HL : Hid (BL u6 ((g6, v3) :: (g5, v2) :: (g4, v1) :: (g3, v4) :: (g2, v3) :: (g1, v2) :: (g0, v1) :: [])) := by rw [hu6, hg6]; exact HL2.out
  replace HN := hide (show L2 w u6 m k n s k' n' s' by rw [hu6]; exact HN.out.below ((Below.refl _ _).alloc (Nat.le_refl _) _))
  clear HL2 hg6 hu6 a0 a1 a2 b0 b1 b2 hl
  obtain ⟨a0, a1, a2⟩ := HN.out.2.1.c3
  obtain ⟨b0, b1, b2⟩ := HN.out.2.2.1.c3
  have hl := HN.out.2.2.1.lt
  go_wp2_with fail
  with_reducible refine (rNeg_any k n s u6 h0 h1).mono ?_
  rintro e x7 ⟨rfl, hbb⟩
  replace HN := hide (HN.out.below hbb)
  replace HL := hide (HL.out.below hbb)
  clear hbb a0 a1 a2 b0 b1 b2 hl
  rw [H4.out]
  unfold ansV valV
  simp only
  obtain ⟨a0, a1, a2⟩ := HN.out.2.1.c3
  obtain ⟨b0, b1, b2⟩ := HN.out.2.2.1.c3
  have hl := HN.out.2.2.1.lt
  go_upto_region 9 with fail
  obtain ⟨g7, hg7⟩ : ∃ g, g = x7.heap.size := ⟨_, rfl⟩
  obtain ⟨u7, hu7⟩ : ∃ z, z = x7.alloc (.cells #[.int .u8 (v4.k.toNat : Int), .int .i64 v4.n, .string v4.s] 25) := ⟨_, rfl⟩
  rw [← hg7, ← hu7]
  have HL2 := hide (HL.out.push v4)
  clear HL
  have HL : Hid (BL u7 ((g7, v4) :: (g6, v3) :: (g5, v2) :: (g4, v1) :: (g3, v4) :: (g2, v3) :: (g1, v2) :: (g0, v1) :: [])) := by rw [hu7, hg7]; exact HL2.out
  replace HN := hide (show L2 w u7 m k n s k' n' s' by rw [hu7]; exact HN.out.below ((Below.refl _ _).alloc (Nat.le_refl _) _))
  clear HL2 hg7 hu7 a0 a1 a2 b0 b1 b2 hl
  obtain ⟨c00, c01, c02⟩ := HL.out.at (g := g0) (v := v1) (List.Mem.tail _ (List.Mem.tail _ (List.Mem.tail _ (List.Mem.tail _ (List.Mem.tail _ (List.Mem.tail _ (List.Mem.tail _ (List.Mem.head _))))))))
  obtain ⟨c10, c11, c12⟩ := HL.out.at (g := g1) (v := v2) (List.Mem.tail _ (List.Mem.tail _ (List.Mem.tail _ (List.Mem.tail _ (List.Mem.tail _ (List.Mem.tail _ (List.Mem.head _)))))))
  obtain ⟨c20, c21, c22⟩ := HL.out.at (g := g2) (v := v3) (List.Mem.tail _ (List.Mem.tail _ (List.Mem.tail _ (List.Mem.tail _ (List.Mem.tail _ (List.Mem.head _))))))
  obtain ⟨c30, c31, c32⟩ := HL.out.at (g := g3) (v := v4) (List.Mem.tail _ (List.Mem.tail _ (List.Mem.tail _ (List.Mem.tail _ (List.Mem.head _)))))
  obtain ⟨c40, c41, c42⟩ := HL.out.at (g := g4) (v := v1) (List.Mem.tail _ (List.Mem.tail _ (List.Mem.tail _ (List.Mem.head _))))
  obtain ⟨c50, c51, c52⟩ := HL.out.at (g := g5) (v := v2) (List.Mem.tail _ (List.Mem.tail _ (List.Mem.head _)))
  obtain ⟨c60, c61, c62⟩ := HL.out.at (g := g6) (v := v3) (List.Mem.tail _ (List.Mem.head _))
  obtain ⟨c70, c71, c72⟩ := HL.out.at (g := g7) (v := v4) (List.Mem.head _)
  have q0 := eqS v1
  have q1 := eqS v2
  have q2 := eqS v3
  have q3 := eqS v4
  have HEv := hide HN.out.1
  go_wp2_with fail
  with_reducible refine (awake_any m u7 HEv.out).mono ?_
  rintro e wz ⟨rfl, hbz⟩
  have HZ := hide (HN.out.2.2.2.trans (hbz.mono HN.out.2.2.2.size))
  clear hbz
  go_wp2_with fail
  go_ret
  exact ⟨rfl, HZ.out⟩
end Go.Proofs.YthmlfbbbcmmhdaaDoor
