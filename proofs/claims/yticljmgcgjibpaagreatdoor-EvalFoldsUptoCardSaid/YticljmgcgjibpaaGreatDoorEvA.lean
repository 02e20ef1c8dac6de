/-
  The walk of eval.leaf: it is Ev.leaf. Conditions: what is read reads as a list.
-/
import Derived.Test.YticljmgcgjibpaaGreatDoorEvMem
import Derived.Test.YticljmgcgjibpaaGreatDoorPieces
namespace Go.Proofs.YticljmgcgjibpaaGreatDoor
open Go.RowKit

namespace Ev
section
variable {r : List V} {role : ByteArray} {h : Hd}
theorem o_eq {o : UInt8} {n : Nat} (h : o.toNat = n) : o = UInt8.ofNat n := by
  rw [← h]
  simp
theorem leaf_lit (ho : h.o.toNat = 1) : leaf r role h = if Cell.rightB h.v = true then (h.v, 0) else (Val.vz, 2) := by
  unfold leaf
  rw [o_eq ho, if_pos (by decide)]
theorem leaf_at (ho : h.o.toNat = 22) {v : V} (h0 : ¬ h.n < 0) (hv : r[h.n.toNat]? = some v) : leaf r role h = if Cell.rightB v = true then (v, 0) else (Val.vz, 2) := by
  unfold leaf
  rw [o_eq ho, if_neg (by decide), if_pos (by decide), if_neg h0, hv]
theorem leaf_no (ho : h.o.toNat = 22) (h0 : h.n < 0 ∨ (r.length : Int) ≤ h.n) : leaf r role h = (Val.vz, 2) := by
  unfold leaf
  rw [o_eq ho, if_neg (by decide), if_pos (by decide)]
  by_cases hn : h.n < 0
  · rw [if_pos hn]
  · rw [if_neg hn, List.getElem?_eq_none (by omega)]
theorem leaf_user (ho : h.o.toNat = 21) : leaf r role h = (⟨4, 0, role.extract 0 (min role.size 200)⟩, 0) := by
  unfold leaf
  rw [o_eq ho, if_neg (by decide), if_neg (by decide), if_pos (by decide)]
theorem leaf_other (h1 : h.o.toNat ≠ 1) (h2 : h.o.toNat ≠ 22) (h3 : h.o.toNat ≠ 21) : leaf r role h = (Val.vz, 330) := by
  unfold leaf
  rw [if_neg (fun e => h1 (by rw [e]; rfl)), if_neg (fun e => h2 (by rw [e]; rfl)), if_neg (fun e => h3 (by rw [e]; rfl))]
theorem user_right (role : ByteArray) : Cell.rightB ⟨4, 0, role.extract 0 (min role.size 200)⟩ = true := by
  unfold Cell.rightB
  simp only [show (4 : UInt8).toNat = 4 from rfl, ByteArray.size_extract]
  simp
  omega
end
end Ev
theorem ansV_mk (k : UInt8) (n : Int) (s : ByteArray) (e : Nat) : ansV (⟨k, n, s⟩, e) = .tuple #[.agg #[.int .u8 (k.toNat : Int), .int .i64 n, .string s], .int .i64 (e : Int)] := rfl
theorem ansV_vz (e : Nat) : ansV (Val.vz, e) = .tuple #[.agg #[.int .u8 0, .int .i64 0, .string ⟨#[]⟩], .int .i64 (e : Int)] := rfl
/-- The end of a function whose answer, a value and an error, lies partly in a cell. -/
structure Fin (w : World) (gR : Nat) (p : Cell.Val × Nat) (w' : World) : Prop where
  blk : Blk w' gR 25 #[.int .u8 (p.1.k.toNat : Int), .int .i64 p.1.n, .string p.1.s]
  bel : Below w.heap.size w w'
noncomputable def lf0 : Code := Tryz.f20.body.getD .skip
noncomputable def lfT : Code := cR (cR (cR lf0))
theorem lf_eq : lf0 = .seq (cL lf0) (.seq (cL (cR lf0)) (.seq (cL (cR (cR lf0))) lfT)) := by kernel_rfl
set_option linter.unusedVariables false in
set_option maxRecDepth 1000000 in
set_option maxHeartbeats 4000000 in
theorem lf_tail {w w2 : World} {gR gV : Nat} {k : UInt8} {n : Int} {s : ByteArray} {Q : Exit → Act → World → Prop} {a : Act} (hF : Fr 47 a [(6, .pointer (some ⟨gR, 0, none⟩)), (8, .pointer (some ⟨gV, 0, none⟩))]) (hV : Blk w2 gV 25 #[.int .u8 (k.toNat : Int), .int .i64 n, .string s]) (hZ : Blk w2 gR 25 #[.int .u8 0, .int .i64 0, .string ⟨#[]⟩]) (hR : w.heap.size ≤ gR) (hB : Below w.heap.size w w2)
    (h : ∀ a' w' p, Fr 47 a' [(6, .pointer (some ⟨gR, 0, none⟩)), (7, .int .i64 (p.2 : Int))] → Fin w gR p w' → p = (if Cell.rightB ⟨k, n, s⟩ = true then (⟨k, n, s⟩, 0) else (Val.vz, 2)) → Q .ret a' w') : lfT.wp Tryz.prog Q a w2 := by
  conv => arg 2; whnf
  obtain ⟨f, rfl, ⟨s6, s8, _⟩, hfr⟩ := hF.open47
  rw [hfr] at s6 s8
  rw [s6, s8]
  clear hF hfr s6 s8
  have H := hide h
  have HB := hide hB
  have HZ := hide hZ
  have HV := hide hV
  have v0 := hV.cell 0
  have v1 := hV.cell 1
  have v2 := hV.cell 2
  simp at v0 v1 v2
  clear h hB hZ hV
  go_wp2_with fail
  with_reducible refine (right_any k n s _).mono ?_
  rintro e w3 ⟨rfl, hb⟩
  have HZ3 := hide (HZ.out.below hb HZ.out.lt)
  have HV3 := hide (HV.out.below hb HV.out.lt)
  have HB3 := hide (HB.out.trans (hb.mono HB.out.size))
  clear hb v0 v1 v2
  have v0 := HV3.out.cell 0
  have v1 := HV3.out.cell 1
  have v2 := HV3.out.cell 2
  simp at v0 v1 v2
  have z0 := HZ3.out.frozen 0
  have z1 := HZ3.out.frozen 1
  have z2 := HZ3.out.frozen 2
  have q0 := HZ3.out.cell 0
  have q1 := HZ3.out.cell 1
  have q2 := HZ3.out.cell 2
  simp at q0 q1 q2
  cases hq : Cell.rightB ⟨k, n, s⟩ with
  | true =>
    have HF : Hid (Fin w gR (⟨k, n, s⟩, 0) (((w3.setCell ⟨gR, 0, none⟩ (.int .u8 (k.toNat : Int))).setCell ⟨gR, 1, none⟩ (.int .i64 n)).setCell ⟨gR, 2, none⟩ (.string s))) := ⟨blk3 HZ3.out _ _ _, below3 HB3.out hR _ _ _⟩
    have HQ : Hid ((⟨k, n, s⟩, 0) = (if Cell.rightB ⟨k, n, s⟩ = true then ((⟨k, n, s⟩, 0) : Cell.Val × Nat) else (Val.vz, 2))) := by show _ = _; rw [hq, if_pos rfl]
    clear hq
    go_wp2_with fail
    refine H.out _ _ (⟨k, n, s⟩, 0) ?_ HF.out HQ.out
    exact ⟨rfl, rfl, rfl, rfl, trivial⟩
  | false =>
    have HF : Hid (Fin w gR (Val.vz, 2) (((w3.setCell ⟨gR, 0, none⟩ (.int .u8 0)).setCell ⟨gR, 1, none⟩ (.int .i64 0)).setCell ⟨gR, 2, none⟩ (.string ⟨#[]⟩))) := ⟨blk3 HZ3.out _ _ _, below3 HB3.out hR _ _ _⟩
    have HQ : Hid ((Val.vz, 2) = (if Cell.rightB ⟨k, n, s⟩ = true then ((⟨k, n, s⟩, 0) : Cell.Val × Nat) else (Val.vz, 2))) := by show _ = _; rw [hq, if_neg (by decide)]
    clear hq
    go_wp2_with fail
    refine H.out _ _ (Val.vz, 2) ?_ HF.out HQ.out
    exact ⟨rfl, rfl, rfl, rfl, trivial⟩
set_option linter.unusedVariables false in
set_option maxRecDepth 1000000 in
set_option maxHeartbeats 4000000 in
theorem lf_a {o k : UInt8} {n N : Int} {s nm of role : ByteArray} {A Ar : Option Addr} {m c nr cr : Nat} {w : World} {Q : Exit → Act → World → Prop} {a : Act} (Y : Code) (hF : Fr 47 a [(0, exV ⟨o, ⟨k, n, s⟩, nm, of, N⟩ A m c), (1, .slice Ar nr cr), (2, .string role)])
    (h : ∀ a' w' gX gR gV, Fr 47 a' [(1, .slice Ar nr cr), (2, .string role), (3, .pointer (some ⟨gX, 0, none⟩)), (6, .pointer (some ⟨gR, 0, none⟩)), (7, .int .i64 0), (8, .pointer (some ⟨gV, 0, none⟩))] → Blk w' gX 28 #[.int .u8 (o.toNat : Int), .int .u8 (k.toNat : Int), .int .i64 n, .string s, .string nm, .string of, .int .i64 N, .slice A m c] → Blk w' gR 25 #[.int .u8 0, .int .i64 0, .string ⟨#[]⟩] → Blk w' gV 25 #[.int .u8 0, .int .i64 0, .string ⟨#[]⟩] → w.heap.size ≤ gR → w.heap.size ≤ gV → gR ≠ gV → Below w.heap.size w w' → Y.wp Tryz.prog Q a' w') : (Code.seq (cL lf0) (Code.seq (cL (cR lf0)) Y)).wp Tryz.prog Q a w := by
  conv => arg 2; arg 1; whnf
  conv => arg 2; arg 2; arg 1; whnf
  obtain ⟨f, rfl, ⟨s0, s1, s2, _⟩, hfr⟩ := hF.open47
  rw [hfr] at s0 s1 s2
  rw [s0, s1, s2]
  clear hF hfr s0 s1 s2
  have H := hide h
  clear h
  unfold exV
  simp only
  obtain ⟨w1, hw1⟩ : ∃ w1, w1 = ((w.alloc (.cells #[.int .u8 (o.toNat : Int), .int .u8 (k.toNat : Int), .int .i64 n, .string s, .string nm, .string of, .int .i64 N, .slice A m c] 28)).alloc (.cells #[.int .u8 0, .int .i64 0, .string ⟨#[]⟩] 25)).alloc (.cells #[.int .u8 0, .int .i64 0, .string ⟨#[]⟩] 25) := ⟨_, rfl⟩
  have HX : Hid (Blk w1 w.heap.size 28 #[.int .u8 (o.toNat : Int), .int .u8 (k.toNat : Int), .int .i64 n, .string s, .string nm, .string of, .int .i64 N, .slice A m c]) := by rw [hw1]; exact ((Blk.new w _ _).alloc _).alloc _
  have HZ : Hid (Blk w1 (w.heap.size + 1) 25 #[.int .u8 0, .int .i64 0, .string ⟨#[]⟩]) := by
    rw [hw1]
    have := (Blk.new (w.alloc (.cells #[.int .u8 (o.toNat : Int), .int .u8 (k.toNat : Int), .int .i64 n, .string s, .string nm, .string of, .int .i64 N, .slice A m c] 28)) 25 #[.int .u8 0, .int .i64 0, .string ⟨#[]⟩]).alloc (.cells #[.int .u8 0, .int .i64 0, .string ⟨#[]⟩] 25)
    exact hide (by simpa using this)
  have HV : Hid (Blk w1 (w.heap.size + 1 + 1) 25 #[.int .u8 0, .int .i64 0, .string ⟨#[]⟩]) := by
    rw [hw1]
    have := Blk.new ((w.alloc (.cells #[.int .u8 (o.toNat : Int), .int .u8 (k.toNat : Int), .int .i64 n, .string s, .string nm, .string of, .int .i64 N, .slice A m c] 28)).alloc (.cells #[.int .u8 0, .int .i64 0, .string ⟨#[]⟩] 25)) 25 #[.int .u8 0, .int .i64 0, .string ⟨#[]⟩]
    exact hide (by simpa using this)
  have HB : Hid (Below w.heap.size w w1) := by
    rw [hw1]
    exact (((Below.refl _ _).alloc (Nat.le_refl _) _).alloc (by simp) _).alloc (by simp; omega) _
  go_wp2_with fail
  rw [← hw1]
  exact H.out _ _ _ _ _ ⟨rfl, rfl, rfl, rfl, rfl, rfl, rfl, rfl, trivial⟩ HX.out HZ.out HV.out (by omega) (by omega) (by omega) HB.out
set_option linter.unusedVariables false in
set_option maxRecDepth 1000000 in
set_option maxHeartbeats 4000000 in
theorem lf_b {o k : UInt8} {n N : Int} {s nm of role : ByteArray} {A Ar : Option Addr} {m c nr cr gX gR gV : Nat} {r : List Cell.Val} {w w2 : World} {Q : Exit → Act → World → Prop} {a : Act} (hF : Fr 47 a [(1, .slice Ar nr cr), (2, .string role), (3, .pointer (some ⟨gX, 0, none⟩)), (6, .pointer (some ⟨gR, 0, none⟩)), (7, .int .i64 0), (8, .pointer (some ⟨gV, 0, none⟩))]) (hX : Blk w2 gX 28 #[.int .u8 (o.toNat : Int), .int .u8 (k.toNat : Int), .int .i64 n, .string s, .string nm, .string of, .int .i64 N, .slice A m c]) (hZ : Blk w2 gR 25 #[.int .u8 0, .int .i64 0, .string ⟨#[]⟩]) (hV : Blk w2 gV 25 #[.int .u8 0, .int .i64 0, .string ⟨#[]⟩]) (hR : w.heap.size ≤ gR) (hgV : w.heap.size ≤ gV) (hne : gR ≠ gV) (hB : Below w.heap.size w w2) (hr : Rv w2 w.heap.size Ar nr r) (hnr : nr ≤ 9223372036854775807) (hro : role.size ≤ 9223372036854775807)
    (h1 : ∀ a' w' p, Fr 47 a' [(6, .pointer (some ⟨gR, 0, none⟩)), (7, .int .i64 (p.2 : Int))] → Fin w gR p w' → p = Ev.leaf r role ⟨o, ⟨k, n, s⟩, nm, of, N⟩ → Q .ret a' w')
    (h2 : ∀ a' w' (k' : UInt8) (n' : Int) (s' : ByteArray), Fr 47 a' [(6, .pointer (some ⟨gR, 0, none⟩)), (8, .pointer (some ⟨gV, 0, none⟩))] → Blk w' gV 25 #[.int .u8 (k'.toNat : Int), .int .i64 n', .string s'] → Blk w' gR 25 #[.int .u8 0, .int .i64 0, .string ⟨#[]⟩] → Below w.heap.size w w' → Ev.leaf r role ⟨o, ⟨k, n, s⟩, nm, of, N⟩ = (if Cell.rightB ⟨k', n', s'⟩ = true then (⟨k', n', s'⟩, 0) else (Val.vz, 2)) → Q .normal a' w') : (cL (cR (cR lf0))).wp Tryz.prog Q a w2 := by
  conv => arg 2; whnf
  obtain ⟨f, rfl, ⟨s1, s2, s3, s6, s7, s8, _⟩, hfr⟩ := hF.open47
  rw [hfr] at s1 s2 s3 s6 s7 s8
  rw [s1, s2, s3, s6, s7, s8]
  clear hF hfr s1 s2 s3 s6 s7 s8
  have H1 := hide h1
  have H2 := hide h2
  have HB := hide hB
  have HZ := hide hZ
  have HV := hide hV
  have HRv := hide hr
  have HLr := hide hr.len
  have x0 := hX.cell 0
  have x1 := hX.cell 1
  have x2 := hX.cell 2
  have x3 := hX.cell 3
  have x4 := hX.cell 4
  have x5 := hX.cell 5
  have x6 := hX.cell 6
  have x7 := hX.cell 7
  simp at x0 x1 x2 x3 x4 x5 x6 x7
  have z0 := hZ.frozen 0
  have z1 := hZ.frozen 1
  have z2 := hZ.frozen 2
  have q0 := hZ.cell 0
  have q1 := hZ.cell 1
  have q2 := hZ.cell 2
  have r0 := hV.cell 0
  have r1 := hV.cell 1
  have r2 := hV.cell 2
  simp at q0 q1 q2 r0 r1 r2
  have y0 := hV.frozen 0
  have y1 := hV.frozen 1
  have y2 := hV.frozen 2
  clear h1 h2 hB hZ hV hX hr
  have stV : ∀ (k' : UInt8) (n' : Int) (s' : ByteArray), Hid (Blk (((w2.setCell ⟨gV, 0, none⟩ (.int .u8 (k'.toNat : Int))).setCell ⟨gV, 1, none⟩ (.int .i64 n')).setCell ⟨gV, 2, none⟩ (.string s')) gV 25 #[.int .u8 (k'.toNat : Int), .int .i64 n', .string s'] ∧ Blk (((w2.setCell ⟨gV, 0, none⟩ (.int .u8 (k'.toNat : Int))).setCell ⟨gV, 1, none⟩ (.int .i64 n')).setCell ⟨gV, 2, none⟩ (.string s')) gR 25 #[.int .u8 0, .int .i64 0, .string ⟨#[]⟩] ∧ Below w.heap.size w (((w2.setCell ⟨gV, 0, none⟩ (.int .u8 (k'.toNat : Int))).setCell ⟨gV, 1, none⟩ (.int .i64 n')).setCell ⟨gV, 2, none⟩ (.string s'))) := fun k' n' s' => ⟨blk3 HV.out _ _ _, ((HZ.out.far hne _).far hne _).far hne _, below3 HB.out hgV _ _ _⟩
  have HSt := hide stV
  clear stV
  by_cases h1 : o.toNat = 1
  · have t1 : ((o.toNat : Int) == 1) = true := by simp; omega
    have HE := hide (Ev.leaf_lit (r := r) (role := role) (h := ⟨o, ⟨k, n, s⟩, nm, of, N⟩) h1)
    clear h1
    go_wp2_with fail
    refine H2.out _ _ k n s ?_ (HSt.out k n s).out.1 (HSt.out k n s).out.2.1 (HSt.out k n s).out.2.2 HE.out
    exact ⟨rfl, rfl, rfl, rfl, trivial⟩
  · have t1 : ((o.toNat : Int) == 1) = false := by simp; omega
    by_cases h2 : o.toNat = 22
    · have t2 : ((o.toNat : Int) == 22) = true := by simp; omega
      by_cases hN : N < 0
      · have t3 : decide (N < 0) = true := decide_eq_true hN
        have HE := hide (Ev.leaf_no (r := r) (role := role) (h := ⟨o, ⟨k, n, s⟩, nm, of, N⟩) h2 (.inl hN))
        have HF : Hid (Fin w gR (Val.vz, 2) (((w2.setCell ⟨gR, 0, none⟩ (.int .u8 0)).setCell ⟨gR, 1, none⟩ (.int .i64 0)).setCell ⟨gR, 2, none⟩ (.string ⟨#[]⟩))) := ⟨blk3 HZ.out _ _ _, below3 HB.out hR _ _ _⟩
        clear h1 h2
        go_wp2_with fail
        refine H1.out _ _ (Val.vz, 2) ?_ HF.out HE.out.symm
        exact ⟨rfl, rfl, rfl, rfl, trivial⟩
      · have t3 : decide (N < 0) = false := decide_eq_false hN
        by_cases hN2 : (nr : Int) ≤ N
        · have t4 : decide ((nr : Int) ≤ N) = true := decide_eq_true hN2
          have HE := hide (Ev.leaf_no (r := r) (role := role) (h := ⟨o, ⟨k, n, s⟩, nm, of, N⟩) h2 (.inr (by rw [HLr.out]; exact hN2)))
          have HF : Hid (Fin w gR (Val.vz, 2) (((w2.setCell ⟨gR, 0, none⟩ (.int .u8 0)).setCell ⟨gR, 1, none⟩ (.int .i64 0)).setCell ⟨gR, 2, none⟩ (.string ⟨#[]⟩))) := ⟨blk3 HZ.out _ _ _, below3 HB.out hR _ _ _⟩
          clear h1 h2
          go_wp2_with fail
          refine H1.out _ _ (Val.vz, 2) ?_ HF.out HE.out.symm
          exact ⟨rfl, rfl, rfl, rfl, trivial⟩
        · have t4 : decide ((nr : Int) ≤ N) = false := decide_eq_false hN2
          obtain ⟨i, rfl⟩ : ∃ i : Nat, N = (i : Int) := ⟨N.toNat, by omega⟩
          obtain ⟨b, off, kd, nn, ss, rfl, hbl, hri, c0, c1, c2, hok⟩ := HRv.out.at (k := i) (by omega)
          have HE := hide (Ev.leaf_at (r := r) (role := role) (h := ⟨o, ⟨k, n, s⟩, nm, of, (i : Int)⟩) h2 hN hri)
          have hin : i < nr := by omega
          clear h1 h2 hN hN2 t3 hri hok
          have t3 : decide ((i : Int) < 0) = false := by simp
          go_wp2_with fail
          refine H2.out _ _ kd nn ss ?_ (HSt.out kd nn ss).out.1 (HSt.out kd nn ss).out.2.1 (HSt.out kd nn ss).out.2.2 HE.out
          exact ⟨rfl, rfl, rfl, rfl, trivial⟩
    · have t2 : ((o.toNat : Int) == 22) = false := by simp; omega
      by_cases h3 : o.toNat = 21
      · have t3 : ((o.toNat : Int) == 21) = true := by simp; omega
        obtain ⟨q, hq⟩ : ∃ q, q = min role.size 200 := ⟨_, rfl⟩
        have HE : Hid (Ev.leaf r role ⟨o, ⟨k, n, s⟩, nm, of, N⟩ = (if Cell.rightB ⟨4, 0, role.extract 0 q⟩ = true then (⟨4, 0, role.extract 0 q⟩, 0) else (Val.vz, 2))) := by
          show _ = _
          rw [hq, Ev.user_right, if_pos rfl, Ev.leaf_user h3]
        have tm : min (role.size : Int) 200 = (q : Int) := by omega
        have hql : q ≤ role.size := by omega
        clear h1 h2 h3 hq
        go_wp2_with fail
        refine H2.out _ _ 4 0 (role.extract 0 q) ?_ (HSt.out 4 0 _).out.1 (HSt.out 4 0 _).out.2.1 (HSt.out 4 0 _).out.2.2 HE.out
        exact ⟨rfl, rfl, rfl, rfl, trivial⟩
      · have t3 : ((o.toNat : Int) == 21) = false := by simp; omega
        have HE := hide (Ev.leaf_other (r := r) (role := role) (h := ⟨o, ⟨k, n, s⟩, nm, of, N⟩) h1 h2 h3)
        have HF : Hid (Fin w gR (Val.vz, 330) (((w2.setCell ⟨gR, 0, none⟩ (.int .u8 0)).setCell ⟨gR, 1, none⟩ (.int .i64 0)).setCell ⟨gR, 2, none⟩ (.string ⟨#[]⟩))) := ⟨blk3 HZ.out _ _ _, below3 HB.out hR _ _ _⟩
        clear h1 h2 h3
        go_wp2_with fail
        refine H1.out _ _ (Val.vz, 330) ?_ HF.out HE.out.symm
        exact ⟨rfl, rfl, rfl, rfl, trivial⟩
set_option linter.unusedVariables false in
set_option maxRecDepth 1000000 in
set_option maxHeartbeats 4000000 in
theorem leaf_any (h : Ev.Hd) (A : Option Addr) (m c : Nat) (Ar : Option Addr) (nr cr : Nat) (r : List Cell.Val) (role : ByteArray) (w : World) (hr : Rv w w.heap.size Ar nr r) (hnr : nr ≤ 9223372036854775807) (hro : role.size ≤ 9223372036854775807) :
    Calls Tryz.prog 20 #[exV h A m c, .slice Ar nr cr, .string role] w fun e w' => e = .returned (ansV (Ev.leaf r role h)) ∧ Below w.heap.size w w' := by
  obtain ⟨o, ⟨k, n, s⟩, nm, of, N⟩ := h
  refine calls_of_wp Tryz.func20 (c := lf0) (by kernel_rfl) ?_
  rw [lf_eq]
  have ret : ∀ a' w' gR p, Fr 47 a' [(6, .pointer (some ⟨gR, 0, none⟩)), (7, .int .i64 (p.2 : Int))] → Fin w gR p w' → p = Ev.leaf r role ⟨o, ⟨k, n, s⟩, nm, of, N⟩ → bodyPost Tryz.prog Tryz.f20 (fun e w' => e = .returned (ansV (Ev.leaf r role ⟨o, ⟨k, n, s⟩, nm, of, N⟩)) ∧ Below w.heap.size w w') .ret a' w' := by
    intro a' w' gR p hF hf hp
    obtain ⟨h1, h2, s6, s7, _⟩ := hF
    exact bodyPost_ret (results_val rfl hf.blk s6 s7) h2 ⟨by rw [← hp]; rfl, hf.bel⟩
  refine lf_a _ (A := A) (m := m) (c := c) (o := o) (k := k) (n := n) (s := s) (nm := nm) (of := of) (N := N) (Ar := Ar) (nr := nr) (cr := cr) (role := role) ?_ ?_
  · rw [Tryz.ntmps20]
    exact ⟨by simp, rfl, by simp, by simp, by simp, trivial⟩
  intro a w1 gX gR gV hF hX hZ hV hR hgV hne hB
  refine wp_seq (lf_b (r := r) hF hX hZ hV hR hgV hne hB (hr.below hB (Nat.le_refl _)) hnr hro (fun a' w' p hF' hf hp => ret a' w' gR p hF' hf hp) ?_)
  intro a' w' k' n' s' hF' hV' hZ' hB' he
  exact lf_tail hF' hV' hZ' hR hB' fun a2 w2 p hF2 hf hp => ret a2 w2 gR p hF2 hf (hp.trans he.symm)
end Go.Proofs.YticljmgcgjibpaaGreatDoor
