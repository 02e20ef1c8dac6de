/-
  The walk of chancerylaw17.ValueCompares: it returns true. Conditions: the tables are as listed. (printed by laws17.py)
-/
import Derived.Test.YthmlfbbbcmmhdaaDoorLaw17
namespace Go.Proofs.YthmlfbbbcmmhdaaDoor
open Go.RowKit

set_option maxRecDepth 20000 in
set_option maxHeartbeats 6400000 in
theorem compares_any (a0 : Int) (k : UInt8) (n : Int) (s : ByteArray) (k' : UInt8) (n' : Int) (s' : ByteArray) (m : Int) (w : World) (hE : Env w m) (hop : (Lit.int .u8 a0).wf = true) (_ : s.size ≤ maxLen) (h0 : -9223372036854775808 ≤ n) (h1 : n ≤ 9223372036854775807) (_ : s'.size ≤ maxLen) (h0' : -9223372036854775808 ≤ n') (h1' : n' ≤ 9223372036854775807) :
    Calls Tryd.prog 3 #[.int .u8 a0, .agg #[.int .u8 (k.toNat : Int), .int .i64 n, .string s], .agg #[.int .u8 (k'.toNat : Int), .int .i64 n', .string s']] w fun e w' => e = .returned (.bool true) ∧ Below w.heap.size w w' := by
  obtain ⟨op, rfl⟩ : ∃ op : Nat, a0 = (op : Int) := ⟨a0.toNat, by have := bounds_u8 hop; omega⟩
  have HN := hide (L2.new w m k n s k' n' s' hE)
  obtain ⟨tc, ec, hc⟩ : ∃ t e, Val.compare op ⟨k, n, s⟩ ⟨k', n', s'⟩ = (t, e) := ⟨_, _, rfl⟩
  have HC := hide hc
  clear hc hop hE
  go_enter Tryd.func3, Tryd.ntmps3
  go_wp2_with fail
  obtain ⟨w0, hw0⟩ : ∃ x, x = (w.alloc (.cells #[.int .u8 (k.toNat : Int), .int .i64 n, .string s] 25)).alloc (.cells #[.int .u8 (k'.toNat : Int), .int .i64 n', .string s'] 25) := ⟨_, rfl⟩
  rw [← hw0] at HN ⊢
  clear hw0
  with_reducible refine (vCompare_any op k n s k' n' s' w0 h0 h1 h0' h1').mono ?_
  rintro e w1 ⟨rfl, hb1⟩
  replace HN := hide (HN.out.below hb1)
  clear hb1
  rw [HC.out]
  unfold truV
  simp only
  obtain ⟨a0, a1, a2⟩ := HN.out.2.1.c3
  obtain ⟨b0, b1, b2⟩ := HN.out.2.2.1.c3
  go_wp2_with fail
  with_reducible refine (rCompare_any op k n s k' n' s' w1 h0 h1 h0' h1').mono ?_
  rintro e w2 ⟨rfl, hb2⟩
  replace HN := hide (HN.out.below hb2)
  clear hb2 a0 a1 a2 b0 b1 b2
  rw [HC.out]
  unfold truV
  simp only
  go_wp2_with fail
  refine wp_region_flow (fun w' => L2 w w' m k n s k' n' s') 27 (by kernel_rfl) (by kernel_rfl) HN.out.drew ?_
  simp only [List.take_succ_cons, List.take_zero, List.drop_succ_cons, List.drop_zero]
  refine wpFlow_read ?_ rfl (fun w' hS => ?_) ?_
  rotate_left
  · go_simp
    rfl
  go_frame
  refine wpFlow_read ?_ rfl (fun w' hS => ?_) ?_
  rotate_left
  · go_simp
    rfl
  go_frame
  refine wpFlow_read ?_ rfl (fun w' hS => ?_) ?_
  rotate_left
  · go_simp
    rfl
  go_frame
  refine wpFlow_read ?_ rfl (fun w' hS => ?_) ?_
  rotate_left
  · go_simp
    rfl
  go_frame
  refine wpFlow_read ?_ rfl (fun w' hS => ?_) ?_
  rotate_left
  · go_simp
    rfl
  go_frame
  refine wpFlow_read ?_ rfl (fun w' hS => ?_) ?_
  rotate_left
  · go_simp
    rfl
  go_frame
  refine wpFlow_read ?_ rfl (fun w' hS => ?_) ?_
  rotate_left
  · go_simp
    rfl
  go_frame
  refine wpFlow_read ?_ rfl (fun w' hS => ?_) ?_
  rotate_left
  · go_simp
    rfl
  go_frame
  refine wpFlow_read ?_ rfl (fun w' hS => ?_) ?_
  rotate_left
  · go_simp
    rfl
  go_frame
  refine wpFlow_read ?_ rfl (fun w' hS => ?_) ?_
  rotate_left
  · obtain ⟨a0, a1, a2⟩ := hS.2.1.c3
    obtain ⟨b0, b1, b2⟩ := hS.2.2.1.c3
    go_simp
    rfl
  go_frame
  refine wpFlow_read ?_ rfl (fun w' hS => ?_) ?_
  rotate_left
  · obtain ⟨a0, a1, a2⟩ := hS.2.1.c3
    obtain ⟨b0, b1, b2⟩ := hS.2.2.1.c3
    go_simp
    rfl
  go_frame
  refine wpFlow_call _ _ _ rfl (fun w' hS => ?_) (fun w' (hS : (fun w' => L2 w w' m k n s k' n' s') w') => ((order_any k n s k' n' s' w').mono fun e w2 hp => ⟨hp.1, hS.below hp.2⟩)) ?_
  · go_simp
  go_frame
  refine wpFlow_read ?_ rfl (fun w' hS => ?_) ?_
  rotate_left
  · obtain ⟨a0, a1, a2⟩ := hS.2.1.c3
    obtain ⟨b0, b1, b2⟩ := hS.2.2.1.c3
    go_simp
    rfl
  go_frame
  refine wpFlow_read ?_ rfl (fun w' hS => ?_) ?_
  rotate_left
  · obtain ⟨a0, a1, a2⟩ := hS.2.1.c3
    obtain ⟨b0, b1, b2⟩ := hS.2.2.1.c3
    go_simp
    rfl
  go_frame
  refine wpFlow_call _ _ _ rfl (fun w' hS => ?_) (fun w' (hS : (fun w' => L2 w w' m k n s k' n' s') w') => ((rOrder_any k n s k' n' s' w').mono fun e w2 hp => ⟨hp.1, hS.below hp.2⟩)) ?_
  · go_simp
  go_frame
  refine wpFlow_read ?_ rfl (fun w' hS => ?_) ?_
  rotate_left
  · go_simp
    rfl
  go_frame
  refine wpFlow_read ?_ rfl (fun w' hS => ?_) ?_
  rotate_left
  · go_simp
    rfl
  go_frame
  refine wpFlow_read ?_ rfl (fun w' hS => ?_) ?_
  rotate_left
  · go_simp
    rfl
  go_frame
  refine wpFlow_read ?_ rfl (fun w' hS => ?_) ?_
  rotate_left
  · obtain ⟨a0, a1, a2⟩ := hS.2.1.c3
    obtain ⟨b0, b1, b2⟩ := hS.2.2.1.c3
    go_simp
    rfl
  go_frame
  refine wpFlow_call _ _ _ rfl (fun w' hS => ?_) (fun w' (hS : (fun w' => L2 w w' m k n s k' n' s') w') => ((right_any k n s w').mono fun e w2 hp => ⟨hp.1, hS.below hp.2⟩)) ?_
  · go_simp
  go_frame
  refine wpFlow_read ?_ rfl (fun w' hS => ?_) ?_
  rotate_left
  · obtain ⟨a0, a1, a2⟩ := hS.2.1.c3
    obtain ⟨b0, b1, b2⟩ := hS.2.2.1.c3
    go_simp
    rfl
  go_frame
  refine wpFlow_call _ _ _ rfl (fun w' hS => ?_) (fun w' (hS : (fun w' => L2 w w' m k n s k' n' s') w') => ((refRight_any k n s w').mono fun e w2 hp => ⟨hp.1, hS.below hp.2⟩)) ?_
  · go_simp
  go_frame
  refine wpFlow_read ?_ rfl (fun w' hS => ?_) ?_
  rotate_left
  · go_simp
    rfl
  go_frame
  refine wpFlow_read ?_ rfl (fun w' hS => ?_) ?_
  rotate_left
  · go_simp
    rfl
  go_frame
  refine wpFlow_read ?_ rfl (fun w' hS => ?_) ?_
  rotate_left
  · go_simp
    rfl
  go_frame
  refine wpFlow_call _ _ _ rfl (fun w' hS => ?_) (fun w' (hS : (fun w' => L2 w w' m k n s k' n' s') w') => ((awake_any m w' hS.1).mono fun e w2 hp => ⟨hp.1, hS.below hp.2⟩)) ?_
  · go_simp
  go_frame
  refine wpFlow_read ?_ rfl (fun w' hS => ?_) ?_
  rotate_left
  · go_simp
    rfl
  go_frame
  refine wpFlow_nil fun w3 hS => ?_
  have HZ := hide hS.2.2.2
  clear hS HN
  go_wp2_with fail
  go_ret
  exact ⟨rfl, HZ.out⟩
end Go.Proofs.YthmlfbbbcmmhdaaDoor
