/-
  The walk of chancerylaw17.ValueTells: it returns true. Conditions: the tables are as listed. (printed by laws17.py)
-/
import Derived.Test.YthmlfbbbcmmhdaaDoorLogLaw
namespace Go.Proofs.YthmlfbbbcmmhdaaDoor
open Go.RowKit

/-- What stands while the law runs: the tables, the value's block, two answers' blocks. -/
def T1 (w wr : World) (m : Int) (k : UInt8) (n : Int) (s : ByteArray) (g7 g9 : Nat) (x : Cell.Val) : Prop := Env wr m ∧ TOr wr ∧ TNot wr ∧ VB w wr k n s ∧ Blk wr g7 25 (vc x) ∧ Blk wr g9 25 (vc x)
theorem T1.below {w wr w' : World} {m : Int} {k : UInt8} {n : Int} {s : ByteArray} {g7 g9 : Nat} {x : Cell.Val} (h : T1 w wr m k n s g7 g9 x) (hb : Below wr.heap.size wr w') : T1 w w' m k n s g7 g9 x := ⟨h.1.below hb (Nat.le_refl _), h.2.1.below hb h.2.1.lt, h.2.2.1.below hb h.2.2.1.lt, h.2.2.2.1.below hb, h.2.2.2.2.1.below hb h.2.2.2.2.1.lt, h.2.2.2.2.2.below hb h.2.2.2.2.2.lt⟩
theorem T1.drew {w wr : World} {m : Int} {k : UInt8} {n : Int} {s : ByteArray} {g7 g9 : Nat} {x : Cell.Val} (h : T1 w wr m k n s g7 g9 x) : T1 w { wr with drawn := wr.drawn + 1 } m k n s g7 g9 x := h.below (Below.refl _ _).drew
set_option maxRecDepth 20000 in
set_option maxHeartbeats 6400000 in
theorem tells_any (k : UInt8) (n : Int) (s : ByteArray) (a1 a2 : Int) (m : Int) (w : World) (hE : Env w m) (hO : TOr w) (hN : TNot w) (_ : s.size ≤ maxLen) (h0 : -9223372036854775808 ≤ n) (h1 : n ≤ 9223372036854775807) (hq : (Lit.int .u8 a1).wf = true) (ht : (Lit.int .u8 a2).wf = true) :
    Calls Tryd.prog 8 #[.agg #[.int .u8 (k.toNat : Int), .int .i64 n, .string s], .int .u8 a1, .int .u8 a2] w fun e w' => e = .returned (.bool true) ∧ Below w.heap.size w w' := by
  obtain ⟨q, rfl⟩ : ∃ op : Nat, a1 = (op : Int) := ⟨a1.toNat, by have := bounds_u8 hq; omega⟩
  obtain ⟨t, rfl⟩ : ∃ op : Nat, a2 = (op : Int) := ⟨a2.toNat, by have := bounds_u8 ht; omega⟩
  have HV := hide (VB.new w k n s)
  have HT := hide (show T3 w w m from ⟨hE, hO, hN, Below.refl _ _⟩)
  obtain ⟨x, xe, hx⟩ : ∃ v e, Val.as_ ⟨k, n, s⟩ q = (v, e) := ⟨_, _, rfl⟩
  obtain ⟨tr, te, htr⟩ : ∃ v e, Lg.truth ⟨k, n, s⟩ = (v, e) := ⟨_, _, rfl⟩
  have HX := hide hx
  have HR := hide htr
  clear hx htr hq ht hE hO hN
  go_enter Tryd.func8, Tryd.ntmps8
  go_wp2_with fail
  obtain ⟨w0, hw0⟩ : ∃ x, x = w.alloc (.cells #[.int .u8 (k.toNat : Int), .int .i64 n, .string s] 25) := ⟨_, rfl⟩
  replace HT := hide (show T3 w w0 m by rw [hw0]; exact HT.out.below ((Below.refl _ _).alloc (Nat.le_refl _) _))
  rw [← hw0] at HV ⊢
  clear hw0
  with_reducible refine (vAs_any k n s q w0 h0 h1).mono ?_
  rintro e x0 ⟨rfl, hbb⟩
  replace HV := hide (HV.out.below hbb)
  replace HT := hide (HT.out.below hbb)

  clear hbb
  rw [HX.out]
  unfold ansV valV
  simp only
  obtain ⟨a0, a1, a2⟩ := HV.out.1.c3
  have hl := HV.out.1.lt
  go_upto_region 2 with fail
  obtain ⟨g7, hg7⟩ : ∃ g, g = x0.heap.size := ⟨_, rfl⟩
  obtain ⟨u0, hu0⟩ : ∃ z, z = x0.alloc (.cells #[.int .u8 (x.k.toNat : Int), .int .i64 x.n, .string x.s] 25) := ⟨_, rfl⟩
  rw [← hg7, ← hu0]
  have Hg7 : Hid (Blk u0 g7 25 (vc x)) := by rw [hu0, hg7]; exact Blk.new _ _ _
  replace HV := hide (show VB w u0 k n s by rw [hu0]; exact HV.out.below ((Below.refl _ _).alloc (Nat.le_refl _) _))
  replace HT := hide (show T3 w u0 m by rw [hu0]; exact HT.out.below ((Below.refl _ _).alloc (Nat.le_refl _) _))
  clear hg7 hu0 a0 a1 a2 hl
  obtain ⟨a0, a1, a2⟩ := HV.out.1.c3
  have hl := HV.out.1.lt
  go_wp2_with fail
  with_reducible refine (rAs_any k n s q u0 h0 h1).mono ?_
  rintro e x1 ⟨rfl, hbb⟩
  replace HV := hide (HV.out.below hbb)
  replace HT := hide (HT.out.below hbb)
  replace Hg7 := hide (Hg7.out.below hbb Hg7.out.lt)
  clear hbb a0 a1 a2 hl
  rw [HX.out]
  unfold ansV valV
  simp only
  obtain ⟨a0, a1, a2⟩ := HV.out.1.c3
  have hl := HV.out.1.lt
  go_upto_region 3 with fail
  obtain ⟨g9, hg9⟩ : ∃ g, g = x1.heap.size := ⟨_, rfl⟩
  obtain ⟨u1, hu1⟩ : ∃ z, z = x1.alloc (.cells #[.int .u8 (x.k.toNat : Int), .int .i64 x.n, .string x.s] 25) := ⟨_, rfl⟩
  rw [← hg9, ← hu1]
  have HA : Hid (T1 w u1 m k n s g7 g9 x) := by
    have hb : Below x1.heap.size x1 u1 := by rw [hu1]; exact (Below.refl _ _).alloc (Nat.le_refl _) _
    exact ⟨HT.out.1.below hb (Nat.le_refl _), HT.out.2.1.below hb HT.out.2.1.lt, HT.out.2.2.1.below hb HT.out.2.2.1.lt, HV.out.below hb, Hg7.out.below hb Hg7.out.lt, by rw [hu1, hg9]; exact Blk.new _ _ _⟩
  clear hg9 hu1 a0 a1 a2 hl HV HT Hg7
  obtain ⟨a0, a1, a2⟩ := HA.out.2.2.2.1.1.c3
  go_wp2_with fail
  with_reducible refine (vTruth_any k n s u1).mono ?_
  rintro e u2 ⟨rfl, hbb⟩
  replace HA := hide (HA.out.below hbb)
  clear hbb a0 a1 a2
  rw [HR.out]
  unfold truV
  simp only
  obtain ⟨a0, a1, a2⟩ := HA.out.2.2.2.1.1.c3
  go_wp2_with fail
  with_reducible refine (rTruth_any k n s u2).mono ?_
  rintro e u3 ⟨rfl, hbb⟩
  replace HA := hide (HA.out.below hbb)
  clear hbb a0 a1 a2
  rw [HR.out]
  unfold truV
  simp only
  go_wp2_with fail
  obtain ⟨ov, hov⟩ : ∃ o, o = Lg.of_ t := ⟨_, rfl⟩
  have HO1 := fun w => vOf_any t w
  have HO2 := fun w => rOf_any t w
  rw [← hov] at HO1 HO2
  unfold valV at HO1 HO2
  have GO1 := hide HO1
  have GO2 := hide HO2
  clear HO1 HO2 hov
  refine wp_region_flow (fun w' => T1 w w' m k n s g7 g9 x) 60 (by kernel_rfl) (by kernel_rfl) HA.out.drew ?_
  simp only [List.take_succ_cons, List.take_zero, List.drop_succ_cons, List.drop_zero]
  refine wpFlow_read ?_ rfl (fun w' hS => ?_) ?_
  rotate_left
  · obtain ⟨a0, a1, a2⟩ := hS.2.2.2.1.1.c3
    obtain ⟨c0, c1, c2⟩ := hS.2.2.2.2.1.c3
    obtain ⟨d0, d1, d2⟩ := hS.2.2.2.2.2.c3
    go_simp
    rfl
  go_frame
  refine wpFlow_read ?_ rfl (fun w' hS => ?_) ?_
  rotate_left
  · obtain ⟨a0, a1, a2⟩ := hS.2.2.2.1.1.c3
    obtain ⟨c0, c1, c2⟩ := hS.2.2.2.2.1.c3
    obtain ⟨d0, d1, d2⟩ := hS.2.2.2.2.2.c3
    go_simp
    rfl
  go_frame
  refine wpFlow_read ?_ rfl (fun w' hS => ?_) ?_
  rotate_left
  · have e := eqS x w'
    go_simp
    rfl
  go_frame
  refine wpFlow_read ?_ rfl (fun w' hS => ?_) ?_
  rotate_left
  · go_simp
    rfl
  go_frame
  refine wpFlow_read ?_ rfl (fun w' hS => ?_) ?_
  rotate_left
  · go_simp
    rfl
  go_frame
  refine wpFlow_read ?_ rfl (fun w' hS => ?_) ?_
  rotate_left
  · go_simp
    rfl
  go_frame
  refine wpFlow_read ?_ rfl (fun w' hS => ?_) ?_
  rotate_left
  · go_simp
    rfl
  go_frame
  refine wpFlow_read ?_ rfl (fun w' hS => ?_) ?_
  rotate_left
  · go_simp
    rfl
  go_frame
  refine wpFlow_read ?_ rfl (fun w' hS => ?_) ?_
  rotate_left
  · go_simp
    rfl
  go_frame
  refine wpFlow_read ?_ rfl (fun w' hS => ?_) ?_
  rotate_left
  · go_simp
    rfl
  go_frame
  refine wpFlow_read ?_ rfl (fun w' hS => ?_) ?_
  rotate_left
  · go_simp
    rfl
  go_frame
  refine wpFlow_read ?_ rfl (fun w' hS => ?_) ?_
  rotate_left
  · go_simp
    rfl
  go_frame
  refine wpFlow_read ?_ rfl (fun w' hS => ?_) ?_
  rotate_left
  · go_simp
    rfl
  go_frame
  refine wpFlow_read ?_ rfl (fun w' hS => ?_) ?_
  rotate_left
  · go_simp
    rfl
  go_frame
  refine wpFlow_read ?_ rfl (fun w' hS => ?_) ?_
  rotate_left
  · go_simp
    rfl
  go_frame
  refine wpFlow_read ?_ rfl (fun w' hS => ?_) ?_
  rotate_left
  · go_simp
    rfl
  go_frame
  refine wpFlow_read ?_ rfl (fun w' hS => ?_) ?_
  rotate_left
  · go_simp
    rfl
  go_frame
  refine wpFlow_read ?_ rfl (fun w' hS => ?_) ?_
  rotate_left
  · go_simp
    rfl
  go_frame
  refine wpFlow_read ?_ rfl (fun w' hS => ?_) ?_
  rotate_left
  · go_simp
    rfl
  go_frame
  refine wpFlow_read ?_ rfl (fun w' hS => ?_) ?_
  rotate_left
  · obtain ⟨a0, a1, a2⟩ := hS.2.2.2.1.1.c3
    obtain ⟨c0, c1, c2⟩ := hS.2.2.2.2.1.c3
    obtain ⟨d0, d1, d2⟩ := hS.2.2.2.2.2.c3
    go_simp
    rfl
  go_frame
  refine wpFlow_call _ _ _ rfl (fun w' hS => ?_) (fun w' (hS : (fun w' => T1 w w' m k n s g7 g9 x) w') => ((vPrint_any k n s m w' hS.1 h0 h1).mono fun e w2 hp => ⟨hp.1, hS.below hp.2⟩)) ?_
  · go_simp
  go_frame
  refine wpFlow_read ?_ rfl (fun w' hS => ?_) ?_
  rotate_left
  · obtain ⟨a0, a1, a2⟩ := hS.2.2.2.1.1.c3
    obtain ⟨c0, c1, c2⟩ := hS.2.2.2.2.1.c3
    obtain ⟨d0, d1, d2⟩ := hS.2.2.2.2.2.c3
    go_simp
    rfl
  go_frame
  refine wpFlow_call _ _ _ rfl (fun w' hS => ?_) (fun w' (hS : (fun w' => T1 w w' m k n s g7 g9 x) w') => ((rPrint_any k n s w' h0 h1).mono fun e w2 hp => ⟨hp.1, hS.below hp.2⟩)) ?_
  · go_simp
  go_frame
  refine wpFlow_read ?_ rfl (fun w' hS => ?_) ?_
  rotate_left
  · go_simp
    rfl
  go_frame
  refine wpFlow_read ?_ rfl (fun w' hS => ?_) ?_
  rotate_left
  · go_simp
    rfl
  go_frame
  refine wpFlow_read ?_ rfl (fun w' hS => ?_) ?_
  rotate_left
  · go_simp
    rfl
  go_frame
  refine wpFlow_read ?_ rfl (fun w' hS => ?_) ?_
  rotate_left
  · go_simp
    rfl
  go_frame
  refine wpFlow_call _ _ _ rfl (fun w' hS => ?_) (fun w' (hS : (fun w' => T1 w w' m k n s g7 g9 x) w') => ((GO1.out w').mono fun e w2 hp => ⟨hp.1, hS.below hp.2⟩)) ?_
  · go_simp
  go_frame
  refine wpFlow_read ?_ rfl (fun w' hS => ?_) ?_
  rotate_left
  · go_simp
    rfl
  go_frame
  refine wpFlow_call _ _ _ rfl (fun w' hS => ?_) (fun w' (hS : (fun w' => T1 w w' m k n s g7 g9 x) w') => ((GO2.out w').mono fun e w2 hp => ⟨hp.1, hS.below hp.2⟩)) ?_
  · go_simp
  go_frame
  refine wpFlow_read ?_ rfl (fun w' hS => ?_) ?_
  rotate_left
  · have e := eqS ov w'
    go_simp
    rfl
  go_frame
  refine wpFlow_read ?_ rfl (fun w' hS => ?_) ?_
  rotate_left
  · go_simp
    rfl
  go_frame
  refine wpFlow_read ?_ rfl (fun w' hS => ?_) ?_
  rotate_left
  · go_simp
    rfl
  go_frame
  refine wpFlow_read ?_ rfl (fun w' hS => ?_) ?_
  rotate_left
  · go_simp
    rfl
  go_frame
  refine wpFlow_read ?_ rfl (fun w' hS => ?_) ?_
  rotate_left
  · go_simp
    rfl
  go_frame
  refine wpFlow_call _ _ _ rfl (fun w' hS => ?_) (fun w' (hS : (fun w' => T1 w w' m k n s g7 g9 x) w') => ((vAnd_any t q w' hS.1.and_).mono fun e w2 hp => ⟨hp.1, by obtain ⟨q', e⟩ := hp.2; rw [e]; exact hS.below (below_drewN (Below.refl _ _) q')⟩)) ?_
  · go_simp
  go_frame
  refine wpFlow_read ?_ rfl (fun w' hS => ?_) ?_
  rotate_left
  · go_simp
    rfl
  go_frame
  refine wpFlow_read ?_ rfl (fun w' hS => ?_) ?_
  rotate_left
  · go_simp
    rfl
  go_frame
  refine wpFlow_call _ _ _ rfl (fun w' hS => ?_) (fun w' (hS : (fun w' => T1 w w' m k n s g7 g9 x) w') => ((rAnd_any t q w').mono fun e w2 hp => ⟨hp.1, hp.2 ▸ hS⟩)) ?_
  · go_simp
  go_frame
  refine wpFlow_read ?_ rfl (fun w' hS => ?_) ?_
  rotate_left
  · go_simp
    rfl
  go_frame
  refine wpFlow_read ?_ rfl (fun w' hS => ?_) ?_
  rotate_left
  · go_simp
    rfl
  go_frame
  refine wpFlow_read ?_ rfl (fun w' hS => ?_) ?_
  rotate_left
  · go_simp
    rfl
  go_frame
  refine wpFlow_read ?_ rfl (fun w' hS => ?_) ?_
  rotate_left
  · go_simp
    rfl
  go_frame
  refine wpFlow_read ?_ rfl (fun w' hS => ?_) ?_
  rotate_left
  · go_simp
    rfl
  go_frame
  refine wpFlow_call _ _ _ rfl (fun w' hS => ?_) (fun w' (hS : (fun w' => T1 w w' m k n s g7 g9 x) w') => ((vOr_any t q w' hS.2.1).mono fun e w2 hp => ⟨hp.1, by obtain ⟨q', e⟩ := hp.2; rw [e]; exact hS.below (below_drewN (Below.refl _ _) q')⟩)) ?_
  · go_simp
  go_frame
  refine wpFlow_read ?_ rfl (fun w' hS => ?_) ?_
  rotate_left
  · go_simp
    rfl
  go_frame
  refine wpFlow_read ?_ rfl (fun w' hS => ?_) ?_
  rotate_left
  · go_simp
    rfl
  go_frame
  refine wpFlow_call _ _ _ rfl (fun w' hS => ?_) (fun w' (hS : (fun w' => T1 w w' m k n s g7 g9 x) w') => ((rOr_any t q w').mono fun e w2 hp => ⟨hp.1, hp.2 ▸ hS⟩)) ?_
  · go_simp
  go_frame
  refine wpFlow_read ?_ rfl (fun w' hS => ?_) ?_
  rotate_left
  · go_simp
    rfl
  go_frame
  refine wpFlow_read ?_ rfl (fun w' hS => ?_) ?_
  rotate_left
  · go_simp
    rfl
  go_frame
  refine wpFlow_read ?_ rfl (fun w' hS => ?_) ?_
  rotate_left
  · go_simp
    rfl
  go_frame
  refine wpFlow_read ?_ rfl (fun w' hS => ?_) ?_
  rotate_left
  · go_simp
    rfl
  go_frame
  refine wpFlow_call _ _ _ rfl (fun w' hS => ?_) (fun w' (hS : (fun w' => T1 w w' m k n s g7 g9 x) w') => ((vNot_any t w' hS.2.2.1).mono fun e w2 hp => ⟨hp.1, hp.2 ▸ hS⟩)) ?_
  · go_simp
  go_frame
  refine wpFlow_read ?_ rfl (fun w' hS => ?_) ?_
  rotate_left
  · go_simp
    rfl
  go_frame
  refine wpFlow_call _ _ _ rfl (fun w' hS => ?_) (fun w' (hS : (fun w' => T1 w w' m k n s g7 g9 x) w') => ((rNot_any t w').mono fun e w2 hp => ⟨hp.1, hp.2 ▸ hS⟩)) ?_
  · go_simp
  go_frame
  refine wpFlow_read ?_ rfl (fun w' hS => ?_) ?_
  rotate_left
  · go_simp
    rfl
  go_frame
  refine wpFlow_read ?_ rfl (fun w' hS => ?_) ?_
  rotate_left
  · go_simp
    rfl
  go_frame
  refine wpFlow_read ?_ rfl (fun w' hS => ?_) ?_
  rotate_left
  · go_simp
    rfl
  go_frame
  refine wpFlow_call _ _ _ rfl (fun w' hS => ?_) (fun w' (hS : (fun w' => T1 w w' m k n s g7 g9 x) w') => ((awake_any m w' hS.1).mono fun e w2 hp => ⟨hp.1, hS.below hp.2⟩)) ?_
  · go_simp
  go_frame
  refine wpFlow_read ?_ rfl (fun w' hS => ?_) ?_
  rotate_left
  · go_simp
    rfl
  go_frame
  refine wpFlow_nil fun wf hS => ?_
  have HZ := hide hS.2.2.2.1.2
  clear hS HA
  go_wp2_with fail
  go_ret
  exact ⟨rfl, HZ.out⟩
end Go.Proofs.YthmlfbbbcmmhdaaDoor
