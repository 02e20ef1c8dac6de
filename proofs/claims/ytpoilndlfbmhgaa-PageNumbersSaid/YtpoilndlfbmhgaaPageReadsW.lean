/-
  The walk of chancerylaw07.PageReads: it returns true. Conditions: the arguments read as lists; sizes within the reach.
-/
import Derived.Test.YtpoilndlfbmhgaaRefSplit
import Derived.Test.YtpoilndlfbmhgaaRefPut
import Derived.Test.YtpoilndlfbmhgaaRoom
import Derived.Test.YtpoilndlfbmhgaaPageTellsW
namespace Go.Proofs.Ytpoilndlfbmhgaa
open Go.RowKit

/-- Bytes of somebody's own. -/
def Ow (w : World) (lo : Nat) (v : Value) (l : List UInt8) : Prop := w.ownsRow lo 5 1 v l.length (l.map B8)
theorem Ow.below {w w' : World} {lo : Nat} {v : Value} {l : List UInt8} (h : Ow w lo v l) (hb : Below w.heap.size w w') (_ : lo ≤ w.heap.size) : Ow w' lo v l := own_below h hb
theorem Ow.form {w : World} {lo : Nat} {v : Value} {l : List UInt8} (h : Ow w lo v l) : ∃ A c, v = .slice A l.length c ∧ Ow w lo (.slice A l.length c) l := by
  obtain ⟨A, c, e⟩ := own_sl h
  exact ⟨A, c, e, e ▸ h⟩
theorem Ow.rb {w : World} {lo c : Nat} {A : Option Addr} {l : List UInt8} (h : Ow w lo (.slice A l.length c) l) : Rb w w.heap.size A l.length l := Rb.own h
/-- Lent bytes. -/
def Le (w : World) (lo g n cap : Nat) (l : List UInt8) : Prop := w.ownsRow lo 5 1 (.slice (some ⟨g, 0, none⟩) (n + 3) cap) (n + 3) ((l ++ [77, 78, 79]).map B8)
theorem Le.below {w w' : World} {lo g n cap : Nat} {l : List UInt8} (h : Le w lo g n cap l) (hb : Below w.heap.size w w') (_ : lo ≤ w.heap.size) : Le w' lo g n cap l := own_below h hb
theorem Le.row {w : World} {lo g n cap : Nat} {l : List UInt8} (h : Le w lo g n cap l) : w.ownsRow lo 5 1 (.slice (some ⟨g, 0, none⟩) (n + 3) cap) (n + 3) ((l ++ [77, 78, 79]).map B8) := h
theorem Le.rb {w : World} {lo g n cap : Nat} {l : List UInt8} (h : Le w lo g n cap l) (hn : l.length = n) : Rb w w.heap.size (some ⟨g, 0, none⟩) n l := by
  have := Rb.own (own_take h (show n ≤ n + 3 by omega))
  rwa [List.take_left' hn] at this
theorem Le.cap {w : World} {lo g n cap : Nat} {l : List UInt8} (h : Le w lo g n cap l) : n + 3 ≤ cap ∧ cap ≤ 9223372036854775807 := by
  obtain ⟨gx, cx, hvx, -, -, h1, h2⟩ := own_pos h (by omega)
  injection hvx with _ _ hcx
  subst hcx
  exact ⟨h1, h2⟩
theorem Bo.form {w : World} {lo : Nat} {v : Value} {l : List UInt8} (h : Bo w lo 0 v l) (hlo : lo ≤ w.heap.size) : ∃ A c, v = .slice A l.length c ∧ Rb w w.heap.size A l.length l := by
  obtain ⟨A, c, e, h1, _⟩ := h.bd hlo
  exact ⟨A, c, e, h1⟩
def pz : Pag.Pg := ⟨0, 0, []⟩
def unE : Option Pag.Pg → Nat
  | none => 170
  | some _ => 0
def unP (r : Option Pag.Pg) : Pag.Pg := r.getD pz
theorem UnP.any {w w' : World} {r : Option Pag.Pg} {e : Ending} (h : UnP w r e w') : ∃ A c, e = .returned (.tuple #[.agg #[.int .u8 ((unP r).kind.toNat : Int), .int .i64 (unP r).next, .slice A (unP r).cells.length c], .int .i64 (unE r : Int)]) ∧ CeOwn w' w.heap.size 0 (.slice A (unP r).cells.length c) (unP r).cells ∧ Below w.heap.size w w' := by
  obtain ⟨hb, h⟩ := h
  cases r with
  | none => exact ⟨Option.none, 0, h, CeOwn.nil _ _ _, hb⟩
  | some p =>
    obtain ⟨v, rfl, A, c, rfl, h⟩ := h
    exact ⟨A, c, rfl, h, hb⟩
theorem unP_len {l : List UInt8} : (unP (Pag.unpB l)).cells.length ≤ 1000 := by
  cases h : Pag.unpB l with
  | none => simp [unP, pz]
  | some p => exact (Pag.unpB_right h).2.2
theorem room_none {l : List UInt8} (h : unE (Pag.unpB l) ≠ 0) : Pag.roomB l = (0, unE (Pag.unpB l)) := by
  cases hu : Pag.unpB l with
  | none => exact Pag.roomB_none hu
  | some p => rw [hu] at h; exact absurd rfl h
theorem room_some {l : List UInt8} (h : unE (Pag.unpB l) = 0) : Pag.roomB l = (4072 - (Pag.taken (unP (Pag.unpB l)).cells : Int), 0) ∧ (∀ c ∈ (unP (Pag.unpB l)).cells, Pag.mayB c.1 c.2 = true) ∧ Pag.taken (unP (Pag.unpB l)).cells ≤ 4072 := by
  cases hu : Pag.unpB l with
  | none => rw [hu] at h; cases h
  | some p =>
    obtain ⟨h1, h2, _⟩ := Pag.unpB_right hu
    exact ⟨Pag.roomB_some hu, Pag.right_may h1, h2⟩
set_option linter.unusedVariables false in
set_option maxRecDepth 100000 in
set_option maxHeartbeats 4000000 in
theorem pageReads_any (A : Option Addr) (n c : Nat) (l : List UInt8) (A1 : Option Addr) (n1 c1 : Nat) (key : List UInt8) (A2 : Option Addr) (n2 c2 : Nat) (val : List UInt8) (w : World)
    (hl : Rb w w.heap.size A n l) (hnc : n ≤ c) (hcm : c ≤ maxLen) (hz : c ≤ 140737488351232) (hk : Rb w w.heap.size A1 n1 key) (hnc1 : n1 ≤ c1) (hcm1 : c1 ≤ maxLen) (hz1 : c1 ≤ 140737488351232) (hv : Rb w w.heap.size A2 n2 val) (hnc2 : n2 ≤ c2) (hcm2 : c2 ≤ maxLen) (hz2 : c2 ≤ 140737488351232) :
    Calls Try.prog 6 #[.slice A n c, .slice A1 n1 c1, .slice A2 n2 c2] w fun e w' => e = .returned (.bool true) ∧ Below w.heap.size w w' := by
  have HL := hide hl
  have HK := hide hk
  have HV := hide hv
  have HLn := hide hl.len
  have HKn := hide hk.len
  have HVn := hide hv.len
  clear hl hk hv hcm hcm1 hcm2
  obtain ⟨un, hun⟩ : ∃ r, r = Pag.unpB l := ⟨_, rfl⟩
  obtain ⟨fi, hfi⟩ : ∃ r, r = Pag.findB l key := ⟨_, rfl⟩
  obtain ⟨pu, hpu⟩ : ∃ r, r = Pag.putB l key val := ⟨_, rfl⟩
  obtain ⟨dr, hdr⟩ : ∃ r, r = Pag.dropB l key := ⟨_, rfl⟩
  obtain ⟨ro, hro⟩ : ∃ r, r = Pag.roomB l := ⟨_, rfl⟩
  obtain ⟨sp, hsp⟩ : ∃ r, r = Pag.splitB l := ⟨_, rfl⟩
  have HUn := hide hun
  have HFi := hide hfi
  have HPu := hide hpu
  have HDr := hide hdr
  have HRo := hide hro
  have HSp := hide hsp
  have hqn : (unP un).cells.length ≤ 1000 := by rw [hun]; exact unP_len
  clear hun hfi hpu hdr hro hsp
  obtain ⟨er, her⟩ : ∃ e, e = unE un := ⟨_, rfl⟩
  have HEr := hide her
  clear her
  obtain ⟨q, hq⟩ : ∃ q, q = unP un := ⟨_, rfl⟩
  rw [← hq] at hqn
  have HQ := hide hq
  clear hq
  obtain ⟨m, hm⟩ : ∃ m, m = q.cells.length := ⟨_, rfl⟩
  rw [← hm] at hqn
  have HM := hide hm
  clear hm
  go_enter Try.func6, Try.ntmps6
  go_wp2_with fail
  obtain ⟨w0, hw0⟩ : ∃ x, x = w := ⟨_, rfl⟩
  have HB0 : Hid (Below w.heap.size w w0) := by rw [hw0]; exact Below.refl _ _
  have hz0 : w.heap.size ≤ w0.heap.size := by rw [hw0]; exact Nat.le_refl _
  rw [← hw0] at HL HK HV ⊢
  clear hw0
  with_reducible refine (lentBytes_any A n c l w0 (HL.out.more (by omega)) (by omega)).mono ?_
  rintro e w1 ⟨gB, capB, rfl, hoB, hb1⟩
  have HIB : Hid (Le w1 w0.heap.size gB n capB l) := hoB
  clear hoB
  obtain ⟨hcB1, hcB2⟩ := HIB.out.cap
  replace HL := hide (HL.out.below hb1 (by omega))
  replace HK := hide (HK.out.below hb1 (by omega))
  replace HV := hide (HV.out.below hb1 (by omega))
  have HB1 := hide (HB0.out.trans (hb1.mono (by omega)))
  have hz1 := hb1.size
  clear hb1 HB0
  go_wp2_with fail
  with_reducible refine (lentBytes_any A1 n1 c1 key w1 (HK.out.more (by omega)) (by omega)).mono ?_
  rintro e w2 ⟨gK, capK, rfl, hoK, hb2⟩
  have HIK : Hid (Le w2 w1.heap.size gK n1 capK key) := hoK
  clear hoK
  obtain ⟨hcK1, hcK2⟩ := HIK.out.cap
  replace HL := hide (HL.out.below hb2 (by omega))
  replace HK := hide (HK.out.below hb2 (by omega))
  replace HV := hide (HV.out.below hb2 (by omega))
  replace HIB := hide (HIB.out.below hb2 (by omega))
  have HB2 := hide (HB1.out.trans (hb2.mono (by omega)))
  have hz2 := hb2.size
  clear hb2 HB1
  go_wp2_with fail
  with_reducible refine (lentBytes_any A2 n2 c2 val w2 (HV.out.more (by omega)) (by omega)).mono ?_
  rintro e w3 ⟨gV, capV, rfl, hoV, hb3⟩
  have HIV : Hid (Le w3 w2.heap.size gV n2 capV val) := hoV
  clear hoV
  obtain ⟨hcV1, hcV2⟩ := HIV.out.cap
  replace HL := hide (HL.out.below hb3 (by omega))
  replace HK := hide (HK.out.below hb3 (by omega))
  replace HV := hide (HV.out.below hb3 (by omega))
  replace HIB := hide (HIB.out.below hb3 (by omega))
  replace HIK := hide (HIK.out.below hb3 (by omega))
  have HB3 := hide (HB2.out.trans (hb3.mono (by omega)))
  have hz3 := hb3.size
  clear hb3 HB2
  go_wp2_with fail
  with_reducible refine (unpack_any (some ⟨gB, 0, none⟩) n capB l w3 (HIB.out.rb HLn.out) (by omega) (by omega) (by omega)).mono ?_
  rintro e w4 hpost
  rw [← HUn.out] at hpost
  obtain ⟨Ai, ci, rfl, hoi, hb4⟩ := hpost.any
  clear hpost
  rw [← HEr.out, ← HQ.out, ← HM.out]
  rw [← HQ.out, ← HM.out] at hoi
  have HCi := hide hoi
  clear hoi
  replace HL := hide (HL.out.below hb4 (by omega))
  replace HK := hide (HK.out.below hb4 (by omega))
  replace HV := hide (HV.out.below hb4 (by omega))
  replace HIB := hide (HIB.out.below hb4 (by omega))
  replace HIK := hide (HIK.out.below hb4 (by omega))
  replace HIV := hide (HIV.out.below hb4 (by omega))
  have HB4 := hide (HB3.out.trans (hb4.mono (by omega)))
  have hz4 := hb4.size
  clear hb4 HB3
  obtain ⟨w5, hw5⟩ : ∃ x, x = w4.alloc (.cells #[.int .u8 (q.kind.toNat : Int), .int .i64 q.next, .slice Ai m ci] 25) := ⟨_, rfl⟩
  have hb5 : Below w4.heap.size w4 w5 := by rw [hw5]; exact (Below.refl _ _).alloc (Nat.le_refl _) _
  have HPi : Hid (Blk w5 w4.heap.size 25 #[.int .u8 (q.kind.toNat : Int), .int .i64 q.next, .slice Ai m ci]) := by rw [hw5]; exact Blk.new _ _ _
  have hlti : w4.heap.size < w5.heap.size := by rw [hw5]; simp
  replace HL := hide (HL.out.below hb5 (by omega))
  replace HK := hide (HK.out.below hb5 (by omega))
  replace HV := hide (HV.out.below hb5 (by omega))
  replace HIB := hide (HIB.out.below hb5 (by omega))
  replace HIK := hide (HIK.out.below hb5 (by omega))
  replace HIV := hide (HIV.out.below hb5 (by omega))
  replace HCi := hide (HCi.out.below hb5 (by omega))
  have HB5 := hide (HB4.out.trans (hb5.mono (by omega)))
  have hz5 := hb5.size
  clear hb5 HB4
  go_upto_region 3 with fail
  rw [← hw5]
  clear hw5
  go_wp2_with fail
  with_reducible refine (rUnpack_any A n c l w5 (HL.out.more (by omega)) (by omega) (by omega) (by omega)).mono ?_
  rintro e w6 hpost
  rw [← HUn.out] at hpost
  obtain ⟨Ah, ch, rfl, hoh, hb6⟩ := hpost.any
  clear hpost
  rw [← HEr.out, ← HQ.out, ← HM.out]
  rw [← HQ.out, ← HM.out] at hoh
  have HCh := hide hoh
  clear hoh
  replace HL := hide (HL.out.below hb6 (by omega))
  replace HK := hide (HK.out.below hb6 (by omega))
  replace HV := hide (HV.out.below hb6 (by omega))
  replace HIB := hide (HIB.out.below hb6 (by omega))
  replace HIK := hide (HIK.out.below hb6 (by omega))
  replace HIV := hide (HIV.out.below hb6 (by omega))
  replace HCi := hide (HCi.out.below hb6 (by omega))
  replace HPi := hide (HPi.out.below hb6 (by omega))
  have HB6 := hide (HB5.out.trans (hb6.mono (by omega)))
  have hz6 := hb6.size
  clear hb6 HB5
  obtain ⟨w7, hw7⟩ : ∃ x, x = w6.alloc (.cells #[.int .u8 (q.kind.toNat : Int), .int .i64 q.next, .slice Ah m ch] 25) := ⟨_, rfl⟩
  have hb7 : Below w6.heap.size w6 w7 := by rw [hw7]; exact (Below.refl _ _).alloc (Nat.le_refl _) _
  have HPh : Hid (Blk w7 w6.heap.size 25 #[.int .u8 (q.kind.toNat : Int), .int .i64 q.next, .slice Ah m ch]) := by rw [hw7]; exact Blk.new _ _ _
  have hlth : w6.heap.size < w7.heap.size := by rw [hw7]; simp
  replace HL := hide (HL.out.below hb7 (by omega))
  replace HK := hide (HK.out.below hb7 (by omega))
  replace HV := hide (HV.out.below hb7 (by omega))
  replace HIB := hide (HIB.out.below hb7 (by omega))
  replace HIK := hide (HIK.out.below hb7 (by omega))
  replace HIV := hide (HIV.out.below hb7 (by omega))
  replace HCi := hide (HCi.out.below hb7 (by omega))
  replace HPi := hide (HPi.out.below hb7 (by omega))
  replace HCh := hide (HCh.out.below hb7 (by omega))
  have HB7 := hide (HB6.out.trans (hb7.mono (by omega)))
  have hz7 := hb7.size
  clear hb7 HB6
  go_upto_region 4 with fail
  rw [← hw7]
  clear hw7
  go_wp2_with fail
  with_reducible refine (Find_any _ _ _ _ _ _ l key w7 (HIB.out.rb HLn.out) (by omega) (by omega) (by omega) (HIK.out.rb HKn.out)).mono ?_
  rintro e w8 hpost
  rw [← HFi.out] at hpost
  obtain ⟨hb8, vx, rfl, hox⟩ := hpost
  have HXx := hide hox
  clear hox
  replace HL := hide (HL.out.below hb8 (by omega))
  replace HK := hide (HK.out.below hb8 (by omega))
  replace HV := hide (HV.out.below hb8 (by omega))
  replace HIB := hide (HIB.out.below hb8 (by omega))
  replace HIK := hide (HIK.out.below hb8 (by omega))
  replace HIV := hide (HIV.out.below hb8 (by omega))
  replace HCi := hide (HCi.out.below hb8 (by omega))
  replace HPi := hide (HPi.out.below hb8 (by omega))
  replace HCh := hide (HCh.out.below hb8 (by omega))
  replace HPh := hide (HPh.out.below hb8 (by omega))
  have HB8 := hide (HB7.out.trans (hb8.mono (by omega)))
  have hz8 := hb8.size
  clear hb8 HB7
  go_wp2_with fail
  have t0 : ((er : Int) != (er : Int)) = false := by simp
  have t1 : ((fi.2.2 : Int) != (fi.2.2 : Int)) = false := by simp
  have t2 : (fi.2.1 != fi.2.1) = false := by simp
  have i0 := HPi.out.cell 0
  have i1 := HPi.out.cell 1
  have i2 := HPi.out.cell 2
  simp at i0 i1 i2
  have h0 := HPh.out.cell 0
  have h1 := HPh.out.cell 1
  have h2 := HPh.out.cell 2
  simp at h0 h1 h2
  with_reducible refine (rFind_any _ _ _ _ _ _ l key w8 (HL.out.more (by omega)) (by omega) (by omega) (by omega) (HK.out.more (by omega))).mono ?_
  rintro e w9 hpost
  rw [← HFi.out] at hpost
  obtain ⟨hb9, vy, rfl, hoy⟩ := hpost
  have HXy := hide hoy
  clear hoy
  replace HL := hide (HL.out.below hb9 (by omega))
  replace HK := hide (HK.out.below hb9 (by omega))
  replace HV := hide (HV.out.below hb9 (by omega))
  replace HIB := hide (HIB.out.below hb9 (by omega))
  replace HIK := hide (HIK.out.below hb9 (by omega))
  replace HIV := hide (HIV.out.below hb9 (by omega))
  replace HCi := hide (HCi.out.below hb9 (by omega))
  replace HPi := hide (HPi.out.below hb9 (by omega))
  replace HCh := hide (HCh.out.below hb9 (by omega))
  replace HPh := hide (HPh.out.below hb9 (by omega))
  replace HXx := hide (HXx.out.below hb9 (by omega))
  have HB9 := hide (HB8.out.trans (hb9.mono (by omega)))
  have hz9 := hb9.size
  clear hb9 HB8
  clear i0 i1 i2 h0 h1 h2
  have i0 := HPi.out.cell 0
  have i1 := HPi.out.cell 1
  have i2 := HPi.out.cell 2
  simp at i0 i1 i2
  have h0 := HPh.out.cell 0
  have h1 := HPh.out.cell 1
  have h2 := HPh.out.cell 2
  simp at h0 h1 h2
  go_wp2_with fail
  with_reducible refine (samePage_any q.kind q.next Ai m ci q.cells q.kind q.next Ah m ch q.cells w9 (by exact HCi.out.rd HM.out (by omega)) (by exact HCh.out.rd HM.out (by omega)) (by unfold maxLen; omega) (by unfold maxLen; omega)).mono ?_
  rintro e w10 ⟨rfl, hb10⟩
  rw [pgB_refl]
  clear i0 i1 i2 h0 h1 h2
  replace HL := hide (HL.out.below hb10 (by omega))
  replace HK := hide (HK.out.below hb10 (by omega))
  replace HV := hide (HV.out.below hb10 (by omega))
  replace HIB := hide (HIB.out.below hb10 (by omega))
  replace HIK := hide (HIK.out.below hb10 (by omega))
  replace HIV := hide (HIV.out.below hb10 (by omega))
  replace HCi := hide (HCi.out.below hb10 (by omega))
  replace HPi := hide (HPi.out.below hb10 (by omega))
  replace HCh := hide (HCh.out.below hb10 (by omega))
  replace HPh := hide (HPh.out.below hb10 (by omega))
  replace HXx := hide (HXx.out.below hb10 (by omega))
  replace HXy := hide (HXy.out.below hb10 (by omega))
  have HB10 := hide (HB9.out.trans (hb10.mono (by omega)))
  have hz10 := hb10.size
  clear hb10 HB9
  obtain ⟨Ax, cx, rfl, rx⟩ := HXx.out.form (by omega)
  obtain ⟨Ay, cy, rfl, ry⟩ := HXy.out.form (by omega)
  have Rx := hide rx
  have Ry := hide ry
  clear rx ry
  go_wp2_with fail
  with_reducible refine (sameBytes_any _ _ _ _ _ _ fi.1 fi.1 _ _ _ Rx.out Ry.out).mono ?_
  rintro e w' ⟨rfl, rfl⟩
  rw [show (fi.1 == fi.1) = true from beq_self_eq_true _]
  clear HXx HXy
  clear Rx Ry t1 t2 t0
  clear HPi HCi
  go_wp2_with fail
  with_reducible refine (put_any _ _ _ _ _ _ _ _ _ l key val w10 (HIB.out.rb HLn.out) (by omega) (by omega) (by omega) (HIK.out.rb HKn.out) (by omega) (by omega) (by omega) (HIV.out.rb HVn.out) (by omega) (by omega) (by omega)).mono ?_
  rintro e w11 hpost
  rw [← HPu.out] at hpost
  obtain ⟨vc, rfl, hoc, hb11⟩ := hpost
  have HXc : Hid (Ow w11 w10.heap.size vc pu.2) := hoc
  clear hoc
  replace HL := hide (HL.out.below hb11 (by omega))
  replace HK := hide (HK.out.below hb11 (by omega))
  replace HV := hide (HV.out.below hb11 (by omega))
  replace HIB := hide (HIB.out.below hb11 (by omega))
  replace HIK := hide (HIK.out.below hb11 (by omega))
  replace HIV := hide (HIV.out.below hb11 (by omega))
  replace HCh := hide (HCh.out.below hb11 (by omega))
  replace HPh := hide (HPh.out.below hb11 (by omega))
  have HB11 := hide (HB10.out.trans (hb11.mono (by omega)))
  have hz11 := hb11.size
  clear hb11 HB10
  go_wp2_with fail
  with_reducible refine (rPut_any _ _ _ _ _ _ _ _ _ l key val w11 (HL.out.more (by omega)) (by omega) (by omega) (by omega) (HK.out.more (by omega)) (by omega) (by omega) (by omega) (HV.out.more (by omega)) (by omega) (by omega) (by omega)).mono ?_
  rintro e w12 hpost
  rw [← HPu.out] at hpost
  obtain ⟨vd, rfl, hod, hb12⟩ := hpost
  have HXd : Hid (Ow w12 w11.heap.size vd pu.2) := hod
  clear hod
  replace HL := hide (HL.out.below hb12 (by omega))
  replace HK := hide (HK.out.below hb12 (by omega))
  replace HV := hide (HV.out.below hb12 (by omega))
  replace HIB := hide (HIB.out.below hb12 (by omega))
  replace HIK := hide (HIK.out.below hb12 (by omega))
  replace HIV := hide (HIV.out.below hb12 (by omega))
  replace HCh := hide (HCh.out.below hb12 (by omega))
  replace HPh := hide (HPh.out.below hb12 (by omega))
  replace HXc := hide (HXc.out.below hb12 (by omega))
  have HB12 := hide (HB11.out.trans (hb12.mono (by omega)))
  have hz12 := hb12.size
  clear hb12 HB11
  go_wp2_with fail
  with_reducible refine (drop_any _ _ _ _ _ _ l key w12 (HIB.out.rb HLn.out) (by omega) (by omega) (by omega) (HIK.out.rb HKn.out)).mono ?_
  rintro e w13 hpost
  rw [← HDr.out] at hpost
  obtain ⟨hb13, ve, rfl, hoe⟩ := hpost
  have HXe : Hid (Ow w13 w12.heap.size ve dr.1) := hoe
  clear hoe
  replace HL := hide (HL.out.below hb13 (by omega))
  replace HK := hide (HK.out.below hb13 (by omega))
  replace HV := hide (HV.out.below hb13 (by omega))
  replace HIB := hide (HIB.out.below hb13 (by omega))
  replace HIK := hide (HIK.out.below hb13 (by omega))
  replace HIV := hide (HIV.out.below hb13 (by omega))
  replace HCh := hide (HCh.out.below hb13 (by omega))
  replace HPh := hide (HPh.out.below hb13 (by omega))
  replace HXc := hide (HXc.out.below hb13 (by omega))
  replace HXd := hide (HXd.out.below hb13 (by omega))
  have HB13 := hide (HB12.out.trans (hb13.mono (by omega)))
  have hz13 := hb13.size
  clear hb13 HB12
  go_wp2_with fail
  have t0 : ((pu.1 : Int) != (pu.1 : Int)) = false := by simp
  have t1 : ((dr.2.2 : Int) != (dr.2.2 : Int)) = false := by simp
  have t2 : (dr.2.1 != dr.2.1) = false := by simp
  with_reducible refine (rDrop_any _ _ _ _ _ _ l key w13 (HL.out.more (by omega)) (by omega) (by omega) (by omega) (HK.out.more (by omega))).mono ?_
  rintro e w14 hpost
  rw [← HDr.out] at hpost
  obtain ⟨hb14, vn, rfl, hon⟩ := hpost
  have HXn : Hid (Ow w14 w13.heap.size vn dr.1) := hon
  clear hon
  obtain ⟨Ac, cc, rfl, oc⟩ := HXc.out.form
  obtain ⟨Ad, cd, rfl, od⟩ := HXd.out.form
  obtain ⟨Ae, ce, rfl, oe⟩ := HXe.out.form
  obtain ⟨An, cn, rfl, on_⟩ := HXn.out.form
  clear oc od oe on_
  replace HL := hide (HL.out.below hb14 (by omega))
  replace HK := hide (HK.out.below hb14 (by omega))
  replace HV := hide (HV.out.below hb14 (by omega))
  replace HIB := hide (HIB.out.below hb14 (by omega))
  replace HIK := hide (HIK.out.below hb14 (by omega))
  replace HIV := hide (HIV.out.below hb14 (by omega))
  replace HCh := hide (HCh.out.below hb14 (by omega))
  replace HPh := hide (HPh.out.below hb14 (by omega))
  replace HXc := hide (HXc.out.below hb14 (by omega))
  replace HXd := hide (HXd.out.below hb14 (by omega))
  replace HXe := hide (HXe.out.below hb14 (by omega))
  have HB14 := hide (HB13.out.trans (hb14.mono (by omega)))
  have hz14 := hb14.size
  clear hb14 HB13
  go_wp2_with fail
  with_reducible refine (sameBytes_any _ _ _ _ _ _ pu.2 pu.2 _ _ _ HXc.out.rb HXd.out.rb).mono ?_
  rintro e w' ⟨rfl, rfl⟩
  rw [show (pu.2 == pu.2) = true from beq_self_eq_true _]
  clear HXc HXd
  go_wp2_with fail
  with_reducible refine (sameBytes_any _ _ _ _ _ _ dr.1 dr.1 _ _ _ HXe.out.rb HXn.out.rb).mono ?_
  rintro e w' ⟨rfl, rfl⟩
  rw [show (dr.1 == dr.1) = true from beq_self_eq_true _]
  clear HXe HXn
  clear t0 t1 t2
  go_wp2_with fail
  with_reducible refine (room_any _ _ _ l w14 (HIB.out.rb HLn.out) (by omega) (by omega) (by omega)).mono ?_
  rintro e w15 hpost
  rw [← HRo.out] at hpost
  obtain ⟨hb15, rfl⟩ := hpost
  replace HL := hide (HL.out.below hb15 (by omega))
  replace HK := hide (HK.out.below hb15 (by omega))
  replace HV := hide (HV.out.below hb15 (by omega))
  replace HIB := hide (HIB.out.below hb15 (by omega))
  replace HIK := hide (HIK.out.below hb15 (by omega))
  replace HIV := hide (HIV.out.below hb15 (by omega))
  replace HCh := hide (HCh.out.below hb15 (by omega))
  replace HPh := hide (HPh.out.below hb15 (by omega))
  have HB15 := hide (HB14.out.trans (hb15.mono (by omega)))
  have hz15 := hb15.size
  clear hb15 HB14
  by_cases h0 : er = 0
  · obtain ⟨hr1, hr2, hr3⟩ := room_some (l := l) (by rw [← HUn.out, ← HEr.out]; exact h0)
    rw [← HUn.out, ← HQ.out] at hr1 hr2 hr3
    obtain ⟨tk, htk⟩ : ∃ tk, tk = 8 + Pag.taken q.cells := ⟨_, rfl⟩
    have htk2 : tk ≤ 4080 := by omega
    have HTk := hide htk
    have HMay := hide hr2
    have hro : ro = (4080 - (tk : Int), 0) := by rw [HRo.out, hr1, htk]; congr 1; omega
    subst hro
    subst h0
    have t0 : ((0 : Int) == 0) = true := rfl
    clear hr1 hr2 hr3 htk
    have h0 := HPh.out.cell 0
    have h1 := HPh.out.cell 1
    have h2 := HPh.out.cell 2
    simp at h0 h1 h2
    go_wp2_with fail
    with_reducible refine (rTk HTk.out q.kind q.next Ah m ch q.cells w15 (by exact HCh.out.rd HM.out (by omega)) HMay.out (by omega)).mono ?_
    rintro e w16 ⟨rfl, hb16⟩
    clear h0 h1 h2
    replace HL := hide (HL.out.below hb16 (by omega))
    replace HK := hide (HK.out.below hb16 (by omega))
    replace HV := hide (HV.out.below hb16 (by omega))
    replace HIB := hide (HIB.out.below hb16 (by omega))
    replace HIK := hide (HIK.out.below hb16 (by omega))
    replace HIV := hide (HIV.out.below hb16 (by omega))
    replace HCh := hide (HCh.out.below hb16 (by omega))
    replace HPh := hide (HPh.out.below hb16 (by omega))
    have HB16 := hide (HB15.out.trans (hb16.mono (by omega)))
    have hz16 := hb16.size
    clear hb16 HB15
    have t1 : ((4080 - (tk : Int)) == (4080 - (tk : Int))) = true := by simp
    clear HPh HCh
    go_wp2_with fail
    with_reducible refine (split_any _ _ _ l w16 (HIB.out.rb HLn.out) (by omega) (by omega) (by omega)).mono ?_
    rintro e w17 hpost
    rw [← HSp.out] at hpost
    obtain ⟨hb17, vs1, vs2, vs3, rfl, hos1, hos2, hos3⟩ := hpost
    have HSs1 := hide hos1
    have HSs2 := hide hos2
    have HSs3 := hide hos3
    clear hos1 hos2 hos3
    replace HL := hide (HL.out.below hb17 (by omega))
    replace HK := hide (HK.out.below hb17 (by omega))
    replace HV := hide (HV.out.below hb17 (by omega))
    replace HIB := hide (HIB.out.below hb17 (by omega))
    replace HIK := hide (HIK.out.below hb17 (by omega))
    replace HIV := hide (HIV.out.below hb17 (by omega))
    have HB17 := hide (HB16.out.trans (hb17.mono (by omega)))
    have hz17 := hb17.size
    clear hb17 HB16
    go_wp2_with fail
    have t2 : ((sp.2.2.2 : Int) == (sp.2.2.2 : Int)) = true := by simp
    with_reducible refine (rSplit_any _ _ _ l w17 (HL.out.more (by omega)) (by omega) (by omega) (by omega)).mono ?_
    rintro e w18 hpost
    rw [← HSp.out] at hpost
    obtain ⟨hb18, va1, va2, va3, rfl, hoa1, hoa2, hoa3⟩ := hpost
    have HSa1 := hide hoa1
    have HSa2 := hide hoa2
    have HSa3 := hide hoa3
    clear hoa1 hoa2 hoa3
    replace HL := hide (HL.out.below hb18 (by omega))
    replace HK := hide (HK.out.below hb18 (by omega))
    replace HV := hide (HV.out.below hb18 (by omega))
    replace HIB := hide (HIB.out.below hb18 (by omega))
    replace HIK := hide (HIK.out.below hb18 (by omega))
    replace HIV := hide (HIV.out.below hb18 (by omega))
    replace HSs1 := hide (HSs1.out.below hb18 (by omega))
    replace HSs2 := hide (HSs2.out.below hb18 (by omega))
    replace HSs3 := hide (HSs3.out.below hb18 (by omega))
    have HB18 := hide (HB17.out.trans (hb18.mono (by omega)))
    have hz18 := hb18.size
    clear hb18 HB17
    obtain ⟨As1, cs1, rfl, rs1⟩ := HSs1.out.form (by omega)
    have Rs1 := hide rs1
    clear rs1
    obtain ⟨Aa1, ca1, rfl, ra1⟩ := HSa1.out.form (by omega)
    have Ra1 := hide ra1
    clear ra1
    obtain ⟨As2, cs2, rfl, rs2⟩ := HSs2.out.form (by omega)
    have Rs2 := hide rs2
    clear rs2
    obtain ⟨Aa2, ca2, rfl, ra2⟩ := HSa2.out.form (by omega)
    have Ra2 := hide ra2
    clear ra2
    obtain ⟨As3, cs3, rfl, rs3⟩ := HSs3.out.form (by omega)
    have Rs3 := hide rs3
    clear rs3
    obtain ⟨Aa3, ca3, rfl, ra3⟩ := HSa3.out.form (by omega)
    have Ra3 := hide ra3
    clear ra3
    go_wp2_with fail
    with_reducible refine (sameBytes_any _ _ _ _ _ _ sp.1 sp.1 _ _ _ Rs1.out Ra1.out).mono ?_
    rintro e w' ⟨rfl, rfl⟩
    rw [show (sp.1 == sp.1) = true from beq_self_eq_true _]
    clear Rs1 Ra1
    go_wp2_with fail
    with_reducible refine (sameBytes_any _ _ _ _ _ _ sp.2.1 sp.2.1 _ _ _ Rs2.out Ra2.out).mono ?_
    rintro e w' ⟨rfl, rfl⟩
    rw [show (sp.2.1 == sp.2.1) = true from beq_self_eq_true _]
    clear Rs2 Ra2
    go_wp2_with fail
    with_reducible refine (sameBytes_any _ _ _ _ _ _ sp.2.2.1 sp.2.2.1 _ _ _ Rs3.out Ra3.out).mono ?_
    rintro e w' ⟨rfl, rfl⟩
    rw [show (sp.2.2.1 == sp.2.2.1) = true from beq_self_eq_true _]
    clear Rs3 Ra3
    go_wp2_with fail
    with_reducible refine (keptBytes_any gB capB _ _ n n _ l _ _ HIB.out.row HL.out (by omega)).mono ?_
    rintro e w' ⟨rfl, rfl⟩
    go_wp2_with fail
    with_reducible refine (keptBytes_any gK capK _ _ n1 n1 _ key _ _ HIK.out.row HK.out (by omega)).mono ?_
    rintro e w' ⟨rfl, rfl⟩
    go_wp2_with fail
    with_reducible refine (keptBytes_any gV capV _ _ n2 n2 _ val _ _ HIV.out.row HV.out (by omega)).mono ?_
    rintro e w' ⟨rfl, rfl⟩
    go_wp2_with fail
    with_reducible refine (awake_any w18).mono ?_
    rintro e w19 ⟨rfl, hb19⟩
    replace HL := hide (HL.out.below hb19 (by omega))
    replace HK := hide (HK.out.below hb19 (by omega))
    replace HV := hide (HV.out.below hb19 (by omega))
    replace HIB := hide (HIB.out.below hb19 (by omega))
    replace HIK := hide (HIK.out.below hb19 (by omega))
    replace HIV := hide (HIV.out.below hb19 (by omega))
    replace HSs1 := hide (HSs1.out.below hb19 (by omega))
    replace HSs2 := hide (HSs2.out.below hb19 (by omega))
    replace HSs3 := hide (HSs3.out.below hb19 (by omega))
    replace HSa1 := hide (HSa1.out.below hb19 (by omega))
    replace HSa2 := hide (HSa2.out.below hb19 (by omega))
    replace HSa3 := hide (HSa3.out.below hb19 (by omega))
    have HB19 := hide (HB18.out.trans (hb19.mono (by omega)))
    have hz19 := hb19.size
    clear hb19 HB18
    go_wp2_with fail
    go_ret
    exact ⟨rfl, HB19.out⟩
  · have hro : ro = (0, er) := by rw [HRo.out, HEr.out, HUn.out]; exact room_none (by rw [← HUn.out, ← HEr.out]; exact h0)
    subst hro
    have t0 : ((er : Int) == 0) = false := by simp; exact h0
    have t1 : ((er : Int) == (er : Int)) = true := by simp
    clear h0
    clear HPh HCh
    go_wp2_with fail
    with_reducible refine (split_any _ _ _ l w15 (HIB.out.rb HLn.out) (by omega) (by omega) (by omega)).mono ?_
    rintro e w16 hpost
    rw [← HSp.out] at hpost
    obtain ⟨hb16, vs1, vs2, vs3, rfl, hos1, hos2, hos3⟩ := hpost
    have HSs1 := hide hos1
    have HSs2 := hide hos2
    have HSs3 := hide hos3
    clear hos1 hos2 hos3
    replace HL := hide (HL.out.below hb16 (by omega))
    replace HK := hide (HK.out.below hb16 (by omega))
    replace HV := hide (HV.out.below hb16 (by omega))
    replace HIB := hide (HIB.out.below hb16 (by omega))
    replace HIK := hide (HIK.out.below hb16 (by omega))
    replace HIV := hide (HIV.out.below hb16 (by omega))
    have HB16 := hide (HB15.out.trans (hb16.mono (by omega)))
    have hz16 := hb16.size
    clear hb16 HB15
    go_wp2_with fail
    have t2 : ((sp.2.2.2 : Int) == (sp.2.2.2 : Int)) = true := by simp
    with_reducible refine (rSplit_any _ _ _ l w16 (HL.out.more (by omega)) (by omega) (by omega) (by omega)).mono ?_
    rintro e w17 hpost
    rw [← HSp.out] at hpost
    obtain ⟨hb17, va1, va2, va3, rfl, hoa1, hoa2, hoa3⟩ := hpost
    have HSa1 := hide hoa1
    have HSa2 := hide hoa2
    have HSa3 := hide hoa3
    clear hoa1 hoa2 hoa3
    replace HL := hide (HL.out.below hb17 (by omega))
    replace HK := hide (HK.out.below hb17 (by omega))
    replace HV := hide (HV.out.below hb17 (by omega))
    replace HIB := hide (HIB.out.below hb17 (by omega))
    replace HIK := hide (HIK.out.below hb17 (by omega))
    replace HIV := hide (HIV.out.below hb17 (by omega))
    replace HSs1 := hide (HSs1.out.below hb17 (by omega))
    replace HSs2 := hide (HSs2.out.below hb17 (by omega))
    replace HSs3 := hide (HSs3.out.below hb17 (by omega))
    have HB17 := hide (HB16.out.trans (hb17.mono (by omega)))
    have hz17 := hb17.size
    clear hb17 HB16
    obtain ⟨As1, cs1, rfl, rs1⟩ := HSs1.out.form (by omega)
    have Rs1 := hide rs1
    clear rs1
    obtain ⟨Aa1, ca1, rfl, ra1⟩ := HSa1.out.form (by omega)
    have Ra1 := hide ra1
    clear ra1
    obtain ⟨As2, cs2, rfl, rs2⟩ := HSs2.out.form (by omega)
    have Rs2 := hide rs2
    clear rs2
    obtain ⟨Aa2, ca2, rfl, ra2⟩ := HSa2.out.form (by omega)
    have Ra2 := hide ra2
    clear ra2
    obtain ⟨As3, cs3, rfl, rs3⟩ := HSs3.out.form (by omega)
    have Rs3 := hide rs3
    clear rs3
    obtain ⟨Aa3, ca3, rfl, ra3⟩ := HSa3.out.form (by omega)
    have Ra3 := hide ra3
    clear ra3
    go_wp2_with fail
    with_reducible refine (sameBytes_any _ _ _ _ _ _ sp.1 sp.1 _ _ _ Rs1.out Ra1.out).mono ?_
    rintro e w' ⟨rfl, rfl⟩
    rw [show (sp.1 == sp.1) = true from beq_self_eq_true _]
    clear Rs1 Ra1
    go_wp2_with fail
    with_reducible refine (sameBytes_any _ _ _ _ _ _ sp.2.1 sp.2.1 _ _ _ Rs2.out Ra2.out).mono ?_
    rintro e w' ⟨rfl, rfl⟩
    rw [show (sp.2.1 == sp.2.1) = true from beq_self_eq_true _]
    clear Rs2 Ra2
    go_wp2_with fail
    with_reducible refine (sameBytes_any _ _ _ _ _ _ sp.2.2.1 sp.2.2.1 _ _ _ Rs3.out Ra3.out).mono ?_
    rintro e w' ⟨rfl, rfl⟩
    rw [show (sp.2.2.1 == sp.2.2.1) = true from beq_self_eq_true _]
    clear Rs3 Ra3
    go_wp2_with fail
    with_reducible refine (keptBytes_any gB capB _ _ n n _ l _ _ HIB.out.row HL.out (by omega)).mono ?_
    rintro e w' ⟨rfl, rfl⟩
    go_wp2_with fail
    with_reducible refine (keptBytes_any gK capK _ _ n1 n1 _ key _ _ HIK.out.row HK.out (by omega)).mono ?_
    rintro e w' ⟨rfl, rfl⟩
    go_wp2_with fail
    with_reducible refine (keptBytes_any gV capV _ _ n2 n2 _ val _ _ HIV.out.row HV.out (by omega)).mono ?_
    rintro e w' ⟨rfl, rfl⟩
    go_wp2_with fail
    with_reducible refine (awake_any w17).mono ?_
    rintro e w18 ⟨rfl, hb18⟩
    replace HL := hide (HL.out.below hb18 (by omega))
    replace HK := hide (HK.out.below hb18 (by omega))
    replace HV := hide (HV.out.below hb18 (by omega))
    replace HIB := hide (HIB.out.below hb18 (by omega))
    replace HIK := hide (HIK.out.below hb18 (by omega))
    replace HIV := hide (HIV.out.below hb18 (by omega))
    replace HSs1 := hide (HSs1.out.below hb18 (by omega))
    replace HSs2 := hide (HSs2.out.below hb18 (by omega))
    replace HSs3 := hide (HSs3.out.below hb18 (by omega))
    replace HSa1 := hide (HSa1.out.below hb18 (by omega))
    replace HSa2 := hide (HSa2.out.below hb18 (by omega))
    replace HSa3 := hide (HSa3.out.below hb18 (by omega))
    have HB18 := hide (HB17.out.trans (hb18.mono (by omega)))
    have hz18 := hb18.size
    clear hb18 HB17
    go_wp2_with fail
    go_ret
    exact ⟨rfl, HB18.out⟩
end Go.Proofs.Ytpoilndlfbmhgaa
