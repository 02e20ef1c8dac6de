/-
  The walks of chancerylaw17.num, dec and awake. Conditions: the tables are as listed. (printed by awake17.py)
-/
import Derived.Test.YthmlfbbbcmmhdaaDoorPrtD
import Derived.Test.YthmlfbbbcmmhdaaDoorCmpD
import Derived.Test.YthmlfbbbcmmhdaaDoorValJ
import Derived.Test.YthmlfbbbcmmhdaaDoorAs
import Derived.Test.YthmlfbbbcmmhdaaDoorValEq
namespace Go.Proofs.YthmlfbbbcmmhdaaDoor
open Go.RowKit

theorem num_any (n : Int) (w : World) : Calls Tryd.prog 48 #[.int .i64 n] w fun e w' => e = .returned (.agg #[.int .u8 2, .int .i64 n, .string ⟨#[]⟩]) ∧ Below w.heap.size w w' := by
  go_enter Tryd.func48, Tryd.ntmps48
  go_wp2
  refine bodyPost_ret (v := .agg #[.int .u8 2, .int .i64 n, .string ⟨#[]⟩]) (by simp [results, Tryd.results48, go_sem]) rfl ⟨rfl, (Below.refl _ _).alloc (Nat.le_refl _) _⟩
theorem dec_any (n : Int) (w : World) : Calls Tryd.prog 49 #[.int .i64 n] w fun e w' => e = .returned (.agg #[.int .u8 3, .int .i64 n, .string ⟨#[]⟩]) ∧ Below w.heap.size w w' := by
  go_enter Tryd.func49, Tryd.ntmps49
  go_wp2
  refine bodyPost_ret (v := .agg #[.int .u8 3, .int .i64 n, .string ⟨#[]⟩]) (by simp [results, Tryd.results49, go_sem]) rfl ⟨rfl, (Below.refl _ _).alloc (Nat.le_refl _) _⟩
theorem aw_cmp (w : World) : Calls Tryd.prog 9 #[.int .u8 9, .agg #[.int .u8 2, .int .i64 1, .string ⟨#[]⟩], .agg #[.int .u8 3, .int .i64 15000, .string ⟨#[]⟩]] w fun e w' => e = .returned (.tuple #[.int .u8 1, .int .i64 0]) ∧ Below w.heap.size w w' := by
  have h := vCompare_any 9 2 (1) ⟨#[]⟩ 3 (15000) ⟨#[]⟩ w (by omega) (by omega) (by omega) (by omega)
  have e : Val.compare 9 ⟨2, 1, ⟨#[]⟩⟩ ⟨3, 15000, ⟨#[]⟩⟩ = (1, 0) := by decide
  rw [e] at h
  exact h
theorem aw_add (w : World) : Calls Tryd.prog 19 #[.agg #[.int .u8 2, .int .i64 9223372036854775807, .string ⟨#[]⟩], .agg #[.int .u8 2, .int .i64 1, .string ⟨#[]⟩]] w fun e w' => e = .returned (.tuple #[.agg #[.int .u8 0, .int .i64 0, .string ⟨#[]⟩], .int .i64 271]) ∧ Below w.heap.size w w' := by
  have h := vAdd_any 2 (9223372036854775807) ⟨#[]⟩ 2 (1) ⟨#[]⟩ w (by omega) (by omega) (by omega) (by omega)
  have e : Val.add ⟨2, 9223372036854775807, ⟨#[]⟩⟩ ⟨2, 1, ⟨#[]⟩⟩ = (Val.vz, 271) := rfl
  rw [e] at h
  exact h
theorem aw_mul1 (w : World) : Calls Tryd.prog 20 #[.agg #[.int .u8 3, .int .i64 1, .string ⟨#[]⟩], .agg #[.int .u8 3, .int .i64 5000, .string ⟨#[]⟩]] w fun e w' => e = .returned (.tuple #[.agg #[.int .u8 3, .int .i64 0, .string ⟨#[]⟩], .int .i64 0]) ∧ Below w.heap.size w w' := by
  have h := vMul_any 3 (1) ⟨#[]⟩ 3 (5000) ⟨#[]⟩ w (by omega) (by omega) (by omega) (by omega)
  have e : Val.mul ⟨3, 1, ⟨#[]⟩⟩ ⟨3, 5000, ⟨#[]⟩⟩ = (⟨3, 0, ⟨#[]⟩⟩, 0) := rfl
  rw [e] at h
  exact h
theorem aw_mul3 (w : World) : Calls Tryd.prog 20 #[.agg #[.int .u8 3, .int .i64 3, .string ⟨#[]⟩], .agg #[.int .u8 3, .int .i64 5000, .string ⟨#[]⟩]] w fun e w' => e = .returned (.tuple #[.agg #[.int .u8 3, .int .i64 2, .string ⟨#[]⟩], .int .i64 0]) ∧ Below w.heap.size w w' := by
  have h := vMul_any 3 (3) ⟨#[]⟩ 3 (5000) ⟨#[]⟩ w (by omega) (by omega) (by omega) (by omega)
  have e : Val.mul ⟨3, 3, ⟨#[]⟩⟩ ⟨3, 5000, ⟨#[]⟩⟩ = (⟨3, 2, ⟨#[]⟩⟩, 0) := rfl
  rw [e] at h
  exact h
theorem aw_and (w : World) (h : TAnd w) : Calls Tryd.prog 26 #[.int .u8 2, .int .u8 0] w fun e w' => e = .returned (.int .u8 0) ∧ ∃ q, w' = w.drewN q := vAnd_any 2 0 w h
theorem five : Prt.prt ⟨3, -5000, ⟨#[]⟩⟩ = [45, 48, 46, 53, 48, 48, 48] := by
  rw [prt_of (by decide)]
  show Prt.decTxt (-5000) = _
  unfold Prt.decTxt Prt.minus
  show [45] ++ Lib.decDigits 0 ++ [46] ++ Prt.dgs 5000 4 = _
  rw [Lib.decDigits_one (by omega), Prt.dgs, Lib.nDigits_unique 3 5000 (by omega) (by omega)]
  rfl
theorem aw_print (m : Int) (w : World) (h : Env w m) : Calls Tryd.prog 16 #[.agg #[.int .u8 3, .int .i64 (-5000), .string ⟨#[]⟩]] w fun e w' => e = .returned (.string ⟨#[45, 48, 46, 53, 48, 48, 48]⟩) ∧ Below w.heap.size w w' := by
  have := vPrint_any 3 (-5000) ⟨#[]⟩ m w h (by omega) (by omega)
  rw [five] at this
  exact this
theorem aw_right (w : World) : Calls Tryd.prog 13 #[.agg #[.int .u8 2, .int .i64 7, .string ⟨#[]⟩]] w fun e w' => e = .returned (.bool true) ∧ Below w.heap.size w w' := right_any 2 7 ⟨#[]⟩ w
/-- What stands while awake runs: the tables, and two values. -/
def AW (w wr : World) (m : Int) (g5 g7 : Nat) : Prop := Env wr m ∧ Below w.heap.size w wr ∧ Blk wr g5 25 #[.int .u8 3, .int .i64 0, .string ⟨#[]⟩] ∧ Blk wr g7 25 #[.int .u8 3, .int .i64 2, .string ⟨#[]⟩]
theorem AW.below {w wr w' : World} {m : Int} {g5 g7 : Nat} (h : AW w wr m g5 g7) (hb : Below wr.heap.size wr w') : AW w w' m g5 g7 := ⟨h.1.below hb (Nat.le_refl _), h.2.1.trans (hb.mono h.2.1.size), h.2.2.1.below hb h.2.2.1.lt, h.2.2.2.below hb h.2.2.2.lt⟩
theorem AW.drew {w wr : World} {m : Int} {g5 g7 : Nat} (h : AW w wr m g5 g7) : AW w { wr with drawn := wr.drawn + 1 } m g5 g7 := ⟨h.1.drew, h.2.1.drew, h.2.2.1, h.2.2.2⟩
theorem eq30 (w : World) : (binOp .eql 25 (.agg #[.int .u8 3, .int .i64 0, .string ⟨#[]⟩]) (.agg #[.int .u8 3, .int .i64 0, .string ⟨#[]⟩])).run Tryd.prog w = .ok (.bool true) w := (eqlV w ⟨3, 0, ⟨#[]⟩⟩ ⟨3, 0, ⟨#[]⟩⟩).trans (by rw [show vbeq ⟨3, 0, ⟨#[]⟩⟩ ⟨3, 0, ⟨#[]⟩⟩ = true from (vbeq_iff _ _).2 rfl])
theorem eq32 (w : World) : (binOp .eql 25 (.agg #[.int .u8 3, .int .i64 2, .string ⟨#[]⟩]) (.agg #[.int .u8 3, .int .i64 2, .string ⟨#[]⟩])).run Tryd.prog w = .ok (.bool true) w := (eqlV w ⟨3, 2, ⟨#[]⟩⟩ ⟨3, 2, ⟨#[]⟩⟩).trans (by rw [show vbeq ⟨3, 2, ⟨#[]⟩⟩ ⟨3, 2, ⟨#[]⟩⟩ = true from (vbeq_iff _ _).2 rfl])
set_option maxRecDepth 20000 in
set_option maxHeartbeats 6400000 in
theorem awake_any (m : Int) (w : World) (hE : Env w m) : Calls Tryd.prog 15 #[] w fun e w' => e = .returned (.bool true) ∧ Below w.heap.size w w' := by
  have HE := hide hE
  have HB : Hid (Below w.heap.size w w) := Below.refl _ _
  clear hE
  go_enter Tryd.func15, Tryd.ntmps15
  go_wp2_with fail
  with_reducible refine (num_any 1 _).mono ?_
  rintro e w1 ⟨rfl, hb1⟩
  replace HB := hide (HB.out.trans (hb1.mono HB.out.size))
  clear hb1
  go_wp2_with fail
  with_reducible refine (dec_any 15000 _).mono ?_
  rintro e w2 ⟨rfl, hb2⟩
  replace HB := hide (HB.out.trans (hb2.mono HB.out.size))
  clear hb2
  go_wp2_with fail
  with_reducible refine (aw_cmp _).mono ?_
  rintro e w3 ⟨rfl, hb3⟩
  replace HB := hide (HB.out.trans (hb3.mono HB.out.size))
  clear hb3
  go_wp2_with fail
  with_reducible refine (num_any 9223372036854775807 _).mono ?_
  rintro e w4 ⟨rfl, hb4⟩
  replace HB := hide (HB.out.trans (hb4.mono HB.out.size))
  clear hb4
  go_wp2_with fail
  with_reducible refine (num_any 1 _).mono ?_
  rintro e w5 ⟨rfl, hb5⟩
  replace HB := hide (HB.out.trans (hb5.mono HB.out.size))
  clear hb5
  go_wp2_with fail
  with_reducible refine (aw_add _).mono ?_
  rintro e w6 ⟨rfl, hb6⟩
  replace HB := hide (HB.out.trans (hb6.mono HB.out.size))
  clear hb6
  go_wp2_with fail
  obtain ⟨v6, hv6⟩ : ∃ x, x = w6.alloc (.cells #[.int .u8 0, .int .i64 0, .string ⟨#[]⟩] 25) := ⟨_, rfl⟩
  rw [← hv6]
  replace HB := hide (show Below w.heap.size w v6 by rw [hv6]; exact HB.out.alloc HB.out.size _)
  clear hv6
  with_reducible refine (dec_any 1 _).mono ?_
  rintro e w7 ⟨rfl, hb7⟩
  replace HB := hide (HB.out.trans (hb7.mono HB.out.size))
  clear hb7
  go_wp2_with fail
  with_reducible refine (dec_any 5000 _).mono ?_
  rintro e w8 ⟨rfl, hb8⟩
  replace HB := hide (HB.out.trans (hb8.mono HB.out.size))
  clear hb8
  go_wp2_with fail
  with_reducible refine (aw_mul1 _).mono ?_
  rintro e w9 ⟨rfl, hb9⟩
  replace HB := hide (HB.out.trans (hb9.mono HB.out.size))
  clear hb9
  go_wp2_with fail
  obtain ⟨v9, hv9⟩ : ∃ x, x = w9.alloc (.cells #[.int .u8 3, .int .i64 0, .string ⟨#[]⟩] 25) := ⟨_, rfl⟩
  obtain ⟨g5, hg5⟩ : ∃ x, x = w9.heap.size := ⟨_, rfl⟩
  have Hg5 : Hid (Blk v9 g5 25 #[.int .u8 3, .int .i64 0, .string ⟨#[]⟩]) := by rw [hv9, hg5]; exact Blk.new _ _ _
  rw [← hv9, ← hg5]
  replace HB := hide (show Below w.heap.size w v9 by rw [hv9]; exact HB.out.alloc HB.out.size _)
  clear hv9 hg5
  with_reducible refine (dec_any 3 _).mono ?_
  rintro e w10 ⟨rfl, hb10⟩
  replace HB := hide (HB.out.trans (hb10.mono HB.out.size))
  replace Hg5 := hide (Hg5.out.below hb10 Hg5.out.lt)
  clear hb10
  go_wp2_with fail
  with_reducible refine (dec_any 5000 _).mono ?_
  rintro e w11 ⟨rfl, hb11⟩
  replace HB := hide (HB.out.trans (hb11.mono HB.out.size))
  replace Hg5 := hide (Hg5.out.below hb11 Hg5.out.lt)
  clear hb11
  go_wp2_with fail
  with_reducible refine (aw_mul3 _).mono ?_
  rintro e w12 ⟨rfl, hb12⟩
  replace HB := hide (HB.out.trans (hb12.mono HB.out.size))
  replace Hg5 := hide (Hg5.out.below hb12 Hg5.out.lt)
  clear hb12
  go_wp2_with fail
  obtain ⟨v12, hv12⟩ : ∃ x, x = w12.alloc (.cells #[.int .u8 3, .int .i64 2, .string ⟨#[]⟩] 25) := ⟨_, rfl⟩
  obtain ⟨g7, hg7⟩ : ∃ x, x = w12.heap.size := ⟨_, rfl⟩
  have Hg7 : Hid (Blk v12 g7 25 #[.int .u8 3, .int .i64 2, .string ⟨#[]⟩]) := by rw [hv12, hg7]; exact Blk.new _ _ _
  rw [← hv12, ← hg7]
  replace HB := hide (show Below w.heap.size w v12 by rw [hv12]; exact HB.out.alloc HB.out.size _)
  replace Hg5 := hide (show Blk v12 g5 25 #[.int .u8 3, .int .i64 0, .string ⟨#[]⟩] by rw [hv12]; exact Hg5.out.alloc _)
  clear hv12 hg7
  have HA : Hid (AW w v12 m g5 g7) := ⟨HE.out.below HB.out (Nat.le_refl _), HB.out, Hg5.out, Hg7.out⟩
  clear HE HB Hg5 Hg7
  refine wp_region_flow (fun w' => AW w w' m g5 g7) 41 (by kernel_rfl) (by kernel_rfl) HA.out.drew ?_
  simp only [List.take_succ_cons, List.take_zero, List.drop_succ_cons, List.drop_zero]
  refine wpFlow_read ?_ rfl (fun w' hS => ?_) ?_
  rotate_left
  · go_simp
    rfl
  go_frame
  refine wpFlow_read ?_ rfl (fun w' hS => ?_) ?_
  rotate_left
  · go_simp
    rfl
  go_frame
  refine wpFlow_read ?_ rfl (fun w' hS => ?_) ?_
  rotate_left
  · go_simp
    rfl
  go_frame
  refine wpFlow_read ?_ rfl (fun w' hS => ?_) ?_
  rotate_left
  · go_simp
    rfl
  go_frame
  refine wpFlow_read ?_ rfl (fun w' hS => ?_) ?_
  rotate_left
  · go_simp
    rfl
  go_frame
  refine wpFlow_read ?_ rfl (fun w' hS => ?_) ?_
  rotate_left
  · go_simp
    rfl
  go_frame
  refine wpFlow_read ?_ rfl (fun w' hS => ?_) ?_
  rotate_left
  · go_simp
    rfl
  go_frame
  refine wpFlow_read ?_ rfl (fun w' hS => ?_) ?_
  rotate_left
  · go_simp
    rfl
  go_frame
  refine wpFlow_read ?_ rfl (fun w' hS => ?_) ?_
  rotate_left
  · go_simp
    rfl
  go_frame
  refine wpFlow_read ?_ rfl (fun w' hS => ?_) ?_
  rotate_left
  · go_simp
    rfl
  go_frame
  refine wpFlow_read ?_ rfl (fun w' hS => ?_) ?_
  rotate_left
  · go_simp
    rfl
  go_frame
  refine wpFlow_read ?_ rfl (fun w' hS => ?_) ?_
  rotate_left
  · obtain ⟨a0, a1, a2⟩ := hS.2.2.1.c3
    go_simp
    rfl
  go_frame
  refine wpFlow_call _ _ _ rfl (fun w' hS => ?_) (fun w' (hS : (fun w' => AW w w' m g5 g7) w') => ((dec_any 0 w').mono fun e w2 hp => ⟨hp.1, hS.below hp.2⟩)) ?_
  · go_simp
  go_frame
  refine wpFlow_read ?_ rfl (fun w' hS => ?_) ?_
  rotate_left
  · have e := eq30 w'
    go_simp
    rfl
  go_frame
  refine wpFlow_read ?_ rfl (fun w' hS => ?_) ?_
  rotate_left
  · go_simp
    rfl
  go_frame
  refine wpFlow_read ?_ rfl (fun w' hS => ?_) ?_
  rotate_left
  · go_simp
    rfl
  go_frame
  refine wpFlow_read ?_ rfl (fun w' hS => ?_) ?_
  rotate_left
  · go_simp
    rfl
  go_frame
  refine wpFlow_read ?_ rfl (fun w' hS => ?_) ?_
  rotate_left
  · go_simp
    rfl
  go_frame
  refine wpFlow_read ?_ rfl (fun w' hS => ?_) ?_
  rotate_left
  · go_simp
    rfl
  go_frame
  refine wpFlow_read ?_ rfl (fun w' hS => ?_) ?_
  rotate_left
  · go_simp
    rfl
  go_frame
  refine wpFlow_read ?_ rfl (fun w' hS => ?_) ?_
  rotate_left
  · obtain ⟨a0, a1, a2⟩ := hS.2.2.2.c3
    go_simp
    rfl
  go_frame
  refine wpFlow_call _ _ _ rfl (fun w' hS => ?_) (fun w' (hS : (fun w' => AW w w' m g5 g7) w') => ((dec_any 2 w').mono fun e w2 hp => ⟨hp.1, hS.below hp.2⟩)) ?_
  · go_simp
  go_frame
  refine wpFlow_read ?_ rfl (fun w' hS => ?_) ?_
  rotate_left
  · have e := eq32 w'
    go_simp
    rfl
  go_frame
  refine wpFlow_read ?_ rfl (fun w' hS => ?_) ?_
  rotate_left
  · go_simp
    rfl
  go_frame
  refine wpFlow_read ?_ rfl (fun w' hS => ?_) ?_
  rotate_left
  · go_simp
    rfl
  go_frame
  refine wpFlow_read ?_ rfl (fun w' hS => ?_) ?_
  rotate_left
  · go_simp
    rfl
  go_frame
  refine wpFlow_read ?_ rfl (fun w' hS => ?_) ?_
  rotate_left
  · go_simp
    rfl
  go_frame
  refine wpFlow_read ?_ rfl (fun w' hS => ?_) ?_
  rotate_left
  · go_simp
    rfl
  go_frame
  refine wpFlow_read ?_ rfl (fun w' hS => ?_) ?_
  rotate_left
  · go_simp
    rfl
  go_frame
  refine wpFlow_call _ _ _ rfl (fun w' hS => ?_) (fun w' (hS : (fun w' => AW w w' m g5 g7) w') => ((aw_and w' hS.1.and_).mono fun e w2 hp => ⟨hp.1, by obtain ⟨q, e⟩ := hp.2; rw [e]; exact hS.below (below_drewN (Below.refl _ _) q)⟩)) ?_
  · go_simp
  go_frame
  refine wpFlow_read ?_ rfl (fun w' hS => ?_) ?_
  rotate_left
  · go_simp
    rfl
  go_frame
  refine wpFlow_read ?_ rfl (fun w' hS => ?_) ?_
  rotate_left
  · go_simp
    rfl
  go_frame
  refine wpFlow_read ?_ rfl (fun w' hS => ?_) ?_
  rotate_left
  · go_simp
    rfl
  go_frame
  refine wpFlow_call _ _ _ rfl (fun w' hS => ?_) (fun w' (hS : (fun w' => AW w w' m g5 g7) w') => ((dec_any (-5000) w').mono fun e w2 hp => ⟨hp.1, hS.below hp.2⟩)) ?_
  · go_simp
  go_frame
  refine wpFlow_call _ _ _ rfl (fun w' hS => ?_) (fun w' (hS : (fun w' => AW w w' m g5 g7) w') => ((aw_print m w' hS.1).mono fun e w2 hp => ⟨hp.1, hS.below hp.2⟩)) ?_
  · go_simp
  go_frame
  refine wpFlow_read ?_ rfl (fun w' hS => ?_) ?_
  rotate_left
  · go_simp
    rfl
  go_frame
  refine wpFlow_read ?_ rfl (fun w' hS => ?_) ?_
  rotate_left
  · go_simp
    rfl
  go_frame
  refine wpFlow_read ?_ rfl (fun w' hS => ?_) ?_
  rotate_left
  · go_simp
    rfl
  go_frame
  refine wpFlow_call _ _ _ rfl (fun w' hS => ?_) (fun w' (hS : (fun w' => AW w w' m g5 g7) w') => ((num_any 7 w').mono fun e w2 hp => ⟨hp.1, hS.below hp.2⟩)) ?_
  · go_simp
  go_frame
  refine wpFlow_call _ _ _ rfl (fun w' hS => ?_) (fun w' (hS : (fun w' => AW w w' m g5 g7) w') => ((aw_right w').mono fun e w2 hp => ⟨hp.1, hS.below hp.2⟩)) ?_
  · go_simp
  go_frame
  refine wpFlow_read ?_ rfl (fun w' hS => ?_) ?_
  rotate_left
  · go_simp
    rfl
  go_frame
  refine wpFlow_nil fun wz hS => ?_
  have HZ := hide hS.2.1
  clear hS HA
  go_wp2_with fail
  go_ret
  exact ⟨rfl, HZ.out⟩
end Go.Proofs.YthmlfbbbcmmhdaaDoor
