/-
  The walk of the law EvalValues: it returns true. Conditions: the tables are laid; what is handed in reads as a tree, and as a row of values that a copy may hold.
-/
import Derived.Test.YticljmgcgjibpaaGreatDoorRfY
import Derived.Test.YticljmgcgjibpaaGreatDoorSmE
namespace Go.Proofs.YticljmgcgjibpaaGreatDoor
open Go.RowKit

theorem ExK.all {w : World} {P : Nat → Prop} {d m : Nat} {A : Option Addr} {ks : List Ev.Ex} (h : ExK w (fun g => P g ∧ g < w.heap.size) d A m ks) : ExK w (· < w.heap.size) d A m ks := ExK.keep (fun _ hg => hg.2) (fun _ _ _ => rfl) h
set_option linter.unusedVariables false in
set_option maxRecDepth 1000000 in
set_option maxHeartbeats 4000000 in
theorem evalValues_any (eh : Ev.Hd) (A : Option Addr) (m c d : Nat) (ks : List Ev.Ex) (Ar : Option Addr) (nr cr : Nat) (r : List Cell.Val) (role : ByteArray) (w : World) (hE : Env w) (hex : ExK w (· < w.heap.size) d A m ks) (hok : HdOk eh) (hmc : m ≤ c) (hc2 : c ≤ 9223372036854775807) (hr : Rv w w.heap.size Ar nr r) (hrc : nr ≤ cr) (hcm : cr ≤ maxLen) (hz : cr * 32 ≤ 140737488351232) (hrz : role.size ≤ 140737488355328) :
    Calls Tryz.prog 3 #[exV eh A m c, .slice Ar nr cr, .string role] w fun e w' => e = .returned (.bool true) ∧ Below w.heap.size w w' := by
  have hnb : nr * 32 ≤ 140737488355328 := by omega
  have hro : role.size ≤ 9223372036854775807 := by omega
  have C := hide hex
  have HOk := hide hok
  have HRv := hide hr
  have HE := hide hE
  have hnr : nr ≤ 9223372036854775807 := by omega
  clear hex hok hr hE
  unfold exV
  obtain ⟨w1, hw1⟩ : ∃ x, x = w.alloc (.cells #[.int .u8 (eh.o.toNat : Int), .int .u8 (eh.v.k.toNat : Int), .int .i64 eh.v.n, .string eh.v.s, .string eh.nm, .string eh.of, .int .i64 eh.n, .slice A m c] 28) := ⟨_, rfl⟩
  have HG : Hid (Blk w1 w.heap.size 28 #[.int .u8 (eh.o.toNat : Int), .int .u8 (eh.v.k.toNat : Int), .int .i64 eh.v.n, .string eh.v.s, .string eh.nm, .string eh.of, .int .i64 eh.n, .slice A m c]) := by rw [hw1]; exact Blk.new _ _ _
  have HB : Hid (Below w.heap.size w w1) := by rw [hw1]; exact al _ _
  go_enter Tryz.func3, Tryz.ntmps3
  go_upto_region 1 with fail
  rw [← hw1]
  clear hw1
  have x0 := HG.out.cell 0
  have x1 := HG.out.cell 1
  have x2 := HG.out.cell 2
  have x3 := HG.out.cell 3
  have x4 := HG.out.cell 4
  have x5 := HG.out.cell 5
  have x6 := HG.out.cell 6
  have x7 := HG.out.cell 7
  simp at x0 x1 x2 x3 x4 x5 x6 x7
  go_wp2_with fail
  have cc := copyExpr_any d eh A m c ks w1 (C.out.next HB.out)
  unfold exV at cc
  with_reducible refine cc.mono ?_
  clear cc
  rintro e w2 ⟨A2, c2, rfl, q1, q2, q3, hb⟩
  have HCx := hide q3.all
  have HQ := hide (And.intro q1 q2)
  clear q1 q2 q3 x0 x1 x2 x3 x4 x5 x6 x7
  replace HB := hide (HB.out.trans (hb.mono HB.out.size))
  replace HG := hide (HG.out.below hb HG.out.lt)
  clear hb
  go_wp2_with fail
  with_reducible refine (copyRow_any Ar nr cr r w2 (HRv.out.next HB.out) hnb).mono ?_
  rintro e w3 ⟨v, rfl, hown, hb⟩
  obtain ⟨A3, c3, rfl⟩ := own_sl hown
  have HCr : Hid (Rv w3 w3.heap.size A3 nr r) := Rv.own hown HRv.out.2
  clear hown
  replace HB := hide (HB.out.trans (hb.mono HB.out.size))
  replace HG := hide (HG.out.below hb HG.out.lt)
  replace HCx := hide (HCx.out.next hb)
  clear hb
  obtain ⟨w4, hw4⟩ : ∃ x, x = w3.alloc (.cells #[.int .u8 (eh.o.toNat : Int), .int .u8 (eh.v.k.toNat : Int), .int .i64 eh.v.n, .string eh.v.s, .string eh.nm, .string eh.of, .int .i64 eh.n, .slice A2 m c2] 28) := ⟨_, rfl⟩
  have HY : Hid (Blk w4 w3.heap.size 28 #[.int .u8 (eh.o.toNat : Int), .int .u8 (eh.v.k.toNat : Int), .int .i64 eh.v.n, .string eh.v.s, .string eh.nm, .string eh.of, .int .i64 eh.n, .slice A2 m c2]) := by rw [hw4]; exact Blk.new _ _ _
  have hb : Below w3.heap.size w3 w4 := by rw [hw4]; exact al _ _
  replace HB := hide (HB.out.trans (hb.mono HB.out.size))
  replace HG := hide (HG.out.below hb HG.out.lt)
  replace HCx := hide (HCx.out.next hb)
  replace HCr := hide (HCr.out.next hb)
  clear hb
  obtain ⟨gy, hgy⟩ : ∃ g, g = w3.heap.size := ⟨_, rfl⟩
  rw [← hgy] at HY
  go_upto_region 2 with fail
  rw [← hw4, ← hgy]
  clear hw4 hgy
  have y0 := HY.out.cell 0
  have y1 := HY.out.cell 1
  have y2 := HY.out.cell 2
  have y3 := HY.out.cell 3
  have y4 := HY.out.cell 4
  have y5 := HY.out.cell 5
  have y6 := HY.out.cell 6
  have y7 := HY.out.cell 7
  simp at y0 y1 y2 y3 y4 y5 y6 y7
  obtain ⟨⟨⟨k, n, s⟩, er⟩, hp⟩ : ∃ p, p = (Ev.Ex.mk eh ks).val r role := ⟨_, rfl⟩
  have HP := hide hp
  clear hp
  go_wp2_with fail
  have cc := value_all d eh ks A2 m c2 A3 nr c3 r role w4 HCx.out HOk.out HQ.out.1 HQ.out.2 HCr.out hnr hro (HE.out.next HB.out)
  rw [← HP.out, ansV_mk] at cc
  unfold exV at cc
  with_reducible refine cc.mono ?_
  clear cc y0 y1 y2 y3 y4 y5 y6 y7
  rintro e w5 ⟨rfl, hb⟩
  replace HB := hide (HB.out.trans (hb.mono HB.out.size))
  replace HG := hide (HG.out.below hb HG.out.lt)
  replace HCx := hide (HCx.out.next hb)
  replace HCr := hide (HCr.out.next hb)
  replace HY := hide (HY.out.below hb HY.out.lt)
  clear hb
  obtain ⟨w6, hw6⟩ : ∃ x, x = w5.alloc (.cells #[.int .u8 (k.toNat : Int), .int .i64 n, .string s] 25) := ⟨_, rfl⟩
  have HV : Hid (Blk w6 w5.heap.size 25 #[.int .u8 (k.toNat : Int), .int .i64 n, .string s]) := by rw [hw6]; exact Blk.new _ _ _
  have hb : Below w5.heap.size w5 w6 := by rw [hw6]; exact al _ _
  replace HB := hide (HB.out.trans (hb.mono HB.out.size))
  replace HG := hide (HG.out.below hb HG.out.lt)
  replace HCx := hide (HCx.out.next hb)
  replace HCr := hide (HCr.out.next hb)
  replace HY := hide (HY.out.below hb HY.out.lt)
  clear hb
  obtain ⟨gv, hgv⟩ : ∃ g, g = w5.heap.size := ⟨_, rfl⟩
  rw [← hgv] at HV
  go_upto_region 3 with fail
  rw [← hw6, ← hgv]
  clear hw6 hgv
  have x0 := HG.out.cell 0
  have x1 := HG.out.cell 1
  have x2 := HG.out.cell 2
  have x3 := HG.out.cell 3
  have x4 := HG.out.cell 4
  have x5 := HG.out.cell 5
  have x6 := HG.out.cell 6
  have x7 := HG.out.cell 7
  simp at x0 x1 x2 x3 x4 x5 x6 x7
  go_wp2_with fail
  have c0 : RVc d := rvalue_all d
  unfold RVc at c0
  have cc := c0 eh ks A m c Ar nr cr r role w6 (C.out.next HB.out) HOk.out (HRv.out.next HB.out) hnr hro
  rw [← HP.out, ansV_mk] at cc
  unfold exV at cc
  with_reducible refine cc.mono ?_
  clear cc c0 x0 x1 x2 x3 x4 x5 x6 x7
  rintro e w7 ⟨rfl, hb⟩
  replace HB := hide (HB.out.trans (hb.mono HB.out.size))
  replace HG := hide (HG.out.below hb HG.out.lt)
  replace HCx := hide (HCx.out.next hb)
  replace HCr := hide (HCr.out.next hb)
  replace HY := hide (HY.out.below hb HY.out.lt)
  replace HV := hide (HV.out.below hb HV.out.lt)
  clear hb
  obtain ⟨w8, hw8⟩ : ∃ x, x = w7.alloc (.cells #[.int .u8 (k.toNat : Int), .int .i64 n, .string s] 25) := ⟨_, rfl⟩
  have HW : Hid (Blk w8 w7.heap.size 25 #[.int .u8 (k.toNat : Int), .int .i64 n, .string s]) := by rw [hw8]; exact Blk.new _ _ _
  have hb : Below w7.heap.size w7 w8 := by rw [hw8]; exact al _ _
  replace HB := hide (HB.out.trans (hb.mono HB.out.size))
  replace HG := hide (HG.out.below hb HG.out.lt)
  replace HCx := hide (HCx.out.next hb)
  replace HCr := hide (HCr.out.next hb)
  replace HY := hide (HY.out.below hb HY.out.lt)
  replace HV := hide (HV.out.below hb HV.out.lt)
  clear hb
  obtain ⟨gw, hgw⟩ : ∃ g, g = w7.heap.size := ⟨_, rfl⟩
  rw [← hgw] at HW
  go_upto_region 4 with fail
  rw [← hw8, ← hgw]
  clear hw8 hgw
  have y0 := HY.out.cell 0
  have y1 := HY.out.cell 1
  have y2 := HY.out.cell 2
  have y3 := HY.out.cell 3
  have y4 := HY.out.cell 4
  have y5 := HY.out.cell 5
  have y6 := HY.out.cell 6
  have y7 := HY.out.cell 7
  simp at y0 y1 y2 y3 y4 y5 y6 y7
  obtain ⟨⟨t, te⟩, ht⟩ : ∃ p, p = Ev.is ((Ev.Ex.mk eh ks).val r role) := ⟨_, rfl⟩
  have HT := hide ht
  clear ht
  go_wp2_with fail
  have cc := is_any d eh ks A2 m c2 A3 nr c3 r role w8 HCx.out HOk.out HQ.out.1 HQ.out.2 HCr.out hnr hro (HE.out.next HB.out)
  rw [← HT.out] at cc
  unfold exV truV at cc
  with_reducible refine cc.mono ?_
  clear cc y0 y1 y2 y3 y4 y5 y6 y7
  rintro e w9 ⟨rfl, hb⟩
  replace HB := hide (HB.out.trans (hb.mono HB.out.size))
  replace HG := hide (HG.out.below hb HG.out.lt)
  replace HCx := hide (HCx.out.next hb)
  replace HCr := hide (HCr.out.next hb)
  replace HY := hide (HY.out.below hb HY.out.lt)
  replace HV := hide (HV.out.below hb HV.out.lt)
  replace HW := hide (HW.out.below hb HW.out.lt)
  clear hb
  have x0 := HG.out.cell 0
  have x1 := HG.out.cell 1
  have x2 := HG.out.cell 2
  have x3 := HG.out.cell 3
  have x4 := HG.out.cell 4
  have x5 := HG.out.cell 5
  have x6 := HG.out.cell 6
  have x7 := HG.out.cell 7
  simp at x0 x1 x2 x3 x4 x5 x6 x7
  go_wp2_with fail
  have cc := rIs_any d eh ks A m c Ar nr cr r role w9 (C.out.next HB.out) HOk.out (HRv.out.next HB.out) hnr hro
  rw [← HT.out] at cc
  unfold exV truV at cc
  with_reducible refine cc.mono ?_
  clear cc x0 x1 x2 x3 x4 x5 x6 x7
  rintro e w10 ⟨rfl, hb⟩
  replace HB := hide (HB.out.trans (hb.mono HB.out.size))
  replace HG := hide (HG.out.below hb HG.out.lt)
  replace HCx := hide (HCx.out.next hb)
  replace HCr := hide (HCr.out.next hb)
  replace HY := hide (HY.out.below hb HY.out.lt)
  replace HV := hide (HV.out.below hb HV.out.lt)
  replace HW := hide (HW.out.below hb HW.out.lt)
  clear hb
  have x0 := HG.out.cell 0
  have x1 := HG.out.cell 1
  have x2 := HG.out.cell 2
  have x3 := HG.out.cell 3
  have x4 := HG.out.cell 4
  have x5 := HG.out.cell 5
  have x6 := HG.out.cell 6
  have x7 := HG.out.cell 7
  simp at x0 x1 x2 x3 x4 x5 x6 x7
  have y0 := HY.out.cell 0
  have y1 := HY.out.cell 1
  have y2 := HY.out.cell 2
  have y3 := HY.out.cell 3
  have y4 := HY.out.cell 4
  have y5 := HY.out.cell 5
  have y6 := HY.out.cell 6
  have y7 := HY.out.cell 7
  simp at y0 y1 y2 y3 y4 y5 y6 y7
  have v0 := HV.out.cell 0
  have v1 := HV.out.cell 1
  have v2 := HV.out.cell 2
  simp at v0 v1 v2
  have u0 := HW.out.cell 0
  have u1 := HW.out.cell 1
  have u2 := HW.out.cell 2
  simp at u0 u1 u2
  have e1 : (binOp .eql 25 (.agg #[.int .u8 (k.toNat : Int), .int .i64 n, .string s]) (.agg #[.int .u8 (k.toNat : Int), .int .i64 n, .string s])).run Tryz.prog w10 = .ok (.bool true) w10 := by
    rw [eqlV w10 ⟨k, n, s⟩ ⟨k, n, s⟩, (vbeq_iff _ _).2 rfl]
  have e2 := guardV
  go_wp2_with fail
  have cc := sameExpr_any d eh A2 A m c2 c ks w10 HCx.out (C.out.next HB.out)
  unfold exV at cc
  with_reducible refine cc.mono ?_
  clear cc e1 x0 x1 x2 x3 x4 x5 x6 x7 y0 y1 y2 y3 y4 y5 y6 y7 v0 v1 v2 u0 u1 u2
  rintro e w11 ⟨rfl, hb⟩
  replace HB := hide (HB.out.trans (hb.mono HB.out.size))
  replace HG := hide (HG.out.below hb HG.out.lt)
  replace HCx := hide (HCx.out.next hb)
  replace HCr := hide (HCr.out.next hb)
  replace HY := hide (HY.out.below hb HY.out.lt)
  replace HV := hide (HV.out.below hb HV.out.lt)
  replace HW := hide (HW.out.below hb HW.out.lt)
  clear hb
  go_wp2_with fail
  with_reducible refine (sameRow_any A3 Ar nr c3 nr cr r r w11 _ _ HCr.out (HRv.out.next HB.out) hnr).mono ?_
  rintro e w12 ⟨bb, rfl, hbb, qq, rfl⟩
  obtain rfl : bb = true := hbb.2 rfl
  have hb : Below w11.heap.size w11 (w11.drewN qq) := ⟨rfl, rfl, rfl, Nat.le_refl _, fun _ _ => rfl⟩
  clear hbb
  replace HB := hide (HB.out.trans (hb.mono HB.out.size))
  replace HG := hide (HG.out.below hb HG.out.lt)
  replace HCx := hide (HCx.out.next hb)
  replace HCr := hide (HCr.out.next hb)
  replace HY := hide (HY.out.below hb HY.out.lt)
  replace HV := hide (HV.out.below hb HV.out.lt)
  replace HW := hide (HW.out.below hb HW.out.lt)
  clear hb
  go_wp2_with fail
  with_reducible refine (awake_any _ (HE.out.next HB.out)).mono ?_
  rintro e w13 ⟨rfl, hb⟩
  replace HB := hide (HB.out.trans (hb.mono HB.out.size))
  replace HG := hide (HG.out.below hb HG.out.lt)
  replace HCx := hide (HCx.out.next hb)
  replace HCr := hide (HCr.out.next hb)
  replace HY := hide (HY.out.below hb HY.out.lt)
  replace HV := hide (HV.out.below hb HV.out.lt)
  replace HW := hide (HW.out.below hb HW.out.lt)
  clear hb
  go_wp2_with fail
  go_ret
  exact ⟨rfl, HB.out⟩
end Go.Proofs.YticljmgcgjibpaaGreatDoor
