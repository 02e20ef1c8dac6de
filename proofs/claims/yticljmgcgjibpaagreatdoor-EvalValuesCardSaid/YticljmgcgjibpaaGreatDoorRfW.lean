/-
  The walk of the switch of chanceryref24.Value: it is Ev.opn. Conditions: what is read reads as a list of values.
-/
import Derived.Test.YticljmgcgjibpaaGreatDoorRfV
namespace Go.Proofs.YticljmgcgjibpaaGreatDoor
open Go.RowKit

noncomputable def rv : Nat → Code
  | 0 => Tryz.f8.body.getD .skip
  | n + 1 => cR (rv n)
section
variable {o k : UInt8} {n N : Int} {s nm of : ByteArray} {A Al : Option Addr} {m c cl gX gR q : Nat} {l : List Cell.Val} {w w2 : World}
set_option linter.unusedVariables false in
set_option maxRecDepth 1000000 in
set_option maxHeartbeats 4000000 in
theorem rv_neg {Q : Exit → Act → World → Prop} {a : Act} (ho : o.toNat = 3) (hF : Fr 178 a [(3, .pointer (some ⟨gX, 0, none⟩)), (6, .pointer (some ⟨gR, 0, none⟩)), (8, .slice Al 1 cl), (10, .int .i64 1)]) (hX : Blk w2 gX 28 #[.int .u8 (o.toNat : Int), .int .u8 (k.toNat : Int), .int .i64 n, .string s, .string nm, .string of, .int .i64 N, .slice A m c]) (hZ : Blk w2 gR 25 #[.int .u8 0, .int .i64 0, .string ⟨#[]⟩]) (hR : w.heap.size ≤ gR) (hB : Below w.heap.size w w2) (hl : Rv w2 w2.heap.size Al 1 l)
    (h : ∀ a' w' p, Fr 178 a' [(6, .pointer (some ⟨gR, 0, none⟩)), (7, .int .i64 (p.2 : Int))] → Fin w gR p w' → p = Ev.opn o l → Q .ret a' w') : (rv 5).wp Tryz.prog Q a w2 := by
  conv => arg 2; whnf
  obtain ⟨f, rfl, ⟨s3, s6, s8, s10, _⟩, hfr⟩ := hF.open178
  rw [hfr] at s3 s6 s8 s10
  rw [s3, s6, s8, s10]
  clear hF hfr s3 s6 s8 s10
  have H := hide h
  have HB := hide hB
  have HZ := hide hZ
  have HL := hide hl
  have x0 := hX.cell 0
  have x1 := hX.cell 1
  have x2 := hX.cell 2
  have x3 := hX.cell 3
  have x4 := hX.cell 4
  have x5 := hX.cell 5
  have x6 := hX.cell 6
  have x7 := hX.cell 7
  simp at x0 x1 x2 x3 x4 x5 x6 x7
  have hlen := hl.len
  clear h hB hZ hl hX
  have t3 : ((o.toNat : Int) == 3) = true := by simp; omega
  obtain ⟨b, off, k1, n1, s1, rfl, hbl, hl0, c0, c1, c2, hok⟩ := HL.out.at (k := 0) (by omega)
  rw [Nat.zero_mul, Nat.add_zero] at c0 c1 c2
  obtain ⟨h1n, h1m⟩ := hok.2
  obtain rfl : l = [⟨k1, n1, s1⟩] := by
    match l, hlen, hl0 with
    | [v], _, h => injection h with h; rw [h]
  clear hl0 hlen hok
  simp only at h1n h1m
  obtain ⟨⟨⟨pk, pn, ps⟩, pe⟩, hp⟩ : ∃ p, p = Val.neg ⟨k1, n1, s1⟩ := ⟨_, rfl⟩
  have HP : Hid ((⟨pk, pn, ps⟩, pe) = Ev.opn o [⟨k1, n1, s1⟩]) := by show _ = _; rw [hp, Ev.o_eq ho]; rfl
  have HQ := hide hp
  clear hp ho
  go_wp2_with fail
  have cc := rNeg_any k1 n1 s1 w2 h1n h1m
  rw [← HQ.out, ansV_mk] at cc
  with_reducible refine cc.mono ?_
  clear cc
  rintro e w3 ⟨rfl, hb⟩
  replace HZ := hide (HZ.out.below hb HZ.out.lt)
  replace HB := hide (HB.out.trans (hb.mono HB.out.size))
  clear hb c0 c1 c2 x0 x1 x2 x3 x4 x5 x6 x7
  have z0 := HZ.out.cell 0
  have z1 := HZ.out.cell 1
  have z2 := HZ.out.cell 2
  simp at z0 z1 z2
  have f0 := HZ.out.frozen 0
  have f1 := HZ.out.frozen 1
  have f2 := HZ.out.frozen 2
  have HF : Hid (Fin w gR (⟨pk, pn, ps⟩, pe) (((w3.setCell ⟨gR, 0, none⟩ (.int .u8 (pk.toNat : Int))).setCell ⟨gR, 1, none⟩ (.int .i64 pn)).setCell ⟨gR, 2, none⟩ (.string ps))) := ⟨blk3 HZ.out _ _ _, below3 HB.out hR _ _ _⟩
  go_wp2_with fail
  refine H.out _ _ (⟨pk, pn, ps⟩, pe) ?_ HF.out HP.out
  exact ⟨rfl, rfl, rfl, rfl, trivial⟩
set_option linter.unusedVariables false in
set_option maxRecDepth 1000000 in
set_option maxHeartbeats 4000000 in
theorem rv_add {Q : Exit → Act → World → Prop} {a : Act} (ho : o.toNat = 4) (hF : Fr 178 a [(3, .pointer (some ⟨gX, 0, none⟩)), (6, .pointer (some ⟨gR, 0, none⟩)), (8, .slice Al 2 cl), (10, .int .i64 2)]) (hX : Blk w2 gX 28 #[.int .u8 (o.toNat : Int), .int .u8 (k.toNat : Int), .int .i64 n, .string s, .string nm, .string of, .int .i64 N, .slice A m c]) (hZ : Blk w2 gR 25 #[.int .u8 0, .int .i64 0, .string ⟨#[]⟩]) (hR : w.heap.size ≤ gR) (hB : Below w.heap.size w w2) (hl : Rv w2 w2.heap.size Al 2 l)
    (h : ∀ a' w' p, Fr 178 a' [(6, .pointer (some ⟨gR, 0, none⟩)), (7, .int .i64 (p.2 : Int))] → Fin w gR p w' → p = Ev.opn o l → Q .ret a' w') : (rv 5).wp Tryz.prog Q a w2 := by
  conv => arg 2; whnf
  obtain ⟨f, rfl, ⟨s3, s6, s8, s10, _⟩, hfr⟩ := hF.open178
  rw [hfr] at s3 s6 s8 s10
  rw [s3, s6, s8, s10]
  clear hF hfr s3 s6 s8 s10
  have H := hide h
  have HB := hide hB
  have HZ := hide hZ
  have HL := hide hl
  have x0 := hX.cell 0
  have x1 := hX.cell 1
  have x2 := hX.cell 2
  have x3 := hX.cell 3
  have x4 := hX.cell 4
  have x5 := hX.cell 5
  have x6 := hX.cell 6
  have x7 := hX.cell 7
  simp at x0 x1 x2 x3 x4 x5 x6 x7
  have hlen := hl.len
  clear h hB hZ hl hX
  have t3 : ((o.toNat : Int) == 3) = false := by simp; omega
  have t4 : ((o.toNat : Int) == 4) = true := by simp; omega
  obtain ⟨b, off, k1, n1, s1, rfl, hbl, hl0, c0, c1, c2, hok⟩ := HL.out.at (k := 0) (by omega)
  obtain ⟨b2, off2, k2, n2, s2, e, hbl2, hl1, d0, d1, d2, hok2⟩ := HL.out.at (k := 1) (by omega)
  injection e with e
  injection e with e1 e2
  subst e1 e2
  rw [Nat.zero_mul, Nat.add_zero] at c0 c1 c2
  rw [Nat.one_mul] at d0 d1 d2
  obtain ⟨h1n, h1m⟩ := hok.2
  obtain ⟨h2n, h2m⟩ := hok2.2
  obtain rfl : l = [⟨k1, n1, s1⟩, ⟨k2, n2, s2⟩] := by
    match l, hlen, hl0, hl1 with
    | [v, u], _, h, h' => injection h with h; injection h' with h'; rw [h, h']
  clear hl0 hl1 hlen hok hok2
  simp only at h1n h1m h2n h2m
  obtain ⟨⟨⟨pk, pn, ps⟩, pe⟩, hp⟩ : ∃ p, p = Val.add ⟨k1, n1, s1⟩ ⟨k2, n2, s2⟩ := ⟨_, rfl⟩
  have HP : Hid ((⟨pk, pn, ps⟩, pe) = Ev.opn o [⟨k1, n1, s1⟩, ⟨k2, n2, s2⟩]) := by show _ = _; rw [hp, Ev.o_eq ho]; rfl
  have HQ := hide hp
  clear hp ho
  go_upto_region 10 with fail
  have hTs := tab_stable (l := [(6, NoF)]) (fun p hp => by
      simp only [List.mem_cons, List.not_mem_nil, or_false] at hp
      subst hp
      exact NoF.stable)
  have hSs := shp_some (l := [(6, IsV (.tuple #[.agg #[.int .u8 (pk.toNat : Int), .int .i64 pn, .string ps], .int .i64 (pe : Int)]))]) (fun p hp => by
      simp only [List.mem_cons, List.not_mem_nil, or_false] at hp
      subst hp
      exact IsV.some _)
  have HTs := hide hTs
  have HSs := hide hSs
  clear hTs hSs
  refine wp_region_toldL (tab [(6, NoF)]) (Up w2) (w2.heap.size) 9 (shp [(6, IsV (.tuple #[.agg #[.int .u8 (pk.toNat : Int), .int .i64 pn, .string ps], .int .i64 (pe : Int)]))]) (HSs.out) (HTs.out) (Up.lives _) Gro (Gro.turns (Up.lives _) (HTs.out)) (by kernel_rfl) (by kernel_rfl) (Up.start _) (Nat.le_refl _) ?_
  simp only [List.take_succ_cons, List.take_zero, List.drop_succ_cons, List.drop_zero]
  refine wpTold_read ?_ rfl rfl (fun w' hS => ?_) ?_
  rotate_left
  · go_simp
    rfl
  go_frame
  refine wpTold_read ?_ rfl rfl (fun w' hS => ?_) ?_
  rotate_left
  · go_simp
    rfl
  go_frame
  refine wpTold_read ?_ rfl rfl (fun w' hS => ?_) ?_
  rotate_left
  · have l0 := (hS.cell (p := ⟨b, off, none⟩) hbl).trans c0
    have l1 := (hS.cell (p := ⟨b, off + 1, none⟩) hbl).trans c1
    have l2 := (hS.cell (p := ⟨b, off + 2, none⟩) hbl).trans c2
    go_simp
    rfl
  go_frame
  refine wpTold_read ?_ rfl rfl (fun w' hS => ?_) ?_
  rotate_left
  · go_simp
    rfl
  go_frame
  refine wpTold_read ?_ rfl rfl (fun w' hS => ?_) ?_
  rotate_left
  · go_simp
    rfl
  go_frame
  refine wpTold_read ?_ rfl rfl (fun w' hS => ?_) ?_
  rotate_left
  · have l0 := (hS.cell (p := ⟨b, off + 3, none⟩) hbl).trans d0
    have l1 := (hS.cell (p := ⟨b, off + 3 + 1, none⟩) hbl).trans d1
    have l2 := (hS.cell (p := ⟨b, off + 3 + 2, none⟩) hbl).trans d2
    go_simp
    rfl
  go_frame
  refine' wpTold_call _ _ _ rfl rfl (fun w' => ?_) (fun w' hS hh hs => ?_) (fun v6 h6 => ?_)
  rotate_left 2
  · go_simp
    constructor <;> rfl
  · have cc := rAdd_any k1 n1 s1 k2 n2 s2 w' h1n h1m h2n h2m
    rw [← HQ.out, ansV_mk] at cc
    refine cc.mono ?_
    rintro e w9 ⟨rfl, hb⟩
    exact ⟨_, rfl, ⟨rfl, trivial⟩, hb⟩
  obtain rfl := h6
  go_frame
  refine wpTold_read ?_ rfl rfl (fun w' hS => ?_) ?_
  rotate_left
  · go_simp
    rfl
  go_frame
  refine wpTold_read ?_ rfl rfl (fun w' hS => ?_) ?_
  rotate_left
  · go_simp
    rfl
  go_frame
  refine wpTold_nil fun w6 hH => ?_
  have hup : Below w2.heap.size w2 w6 := hH.s
  replace HZ := hide (HZ.out.below hup HZ.out.lt)
  replace HB := hide (HB.out.trans (hup.mono HB.out.size))
  clear hH hup c0 c1 c2 d0 d1 d2 x0 x1 x2 x3 x4 x5 x6 x7
  have z0 := HZ.out.cell 0
  have z1 := HZ.out.cell 1
  have z2 := HZ.out.cell 2
  simp at z0 z1 z2
  have f0 := HZ.out.frozen 0
  have f1 := HZ.out.frozen 1
  have f2 := HZ.out.frozen 2
  have HF : Hid (Fin w gR (⟨pk, pn, ps⟩, pe) (((w6.setCell ⟨gR, 0, none⟩ (.int .u8 (pk.toNat : Int))).setCell ⟨gR, 1, none⟩ (.int .i64 pn)).setCell ⟨gR, 2, none⟩ (.string ps))) := ⟨blk3 HZ.out _ _ _, below3 HB.out hR _ _ _⟩
  go_wp2_with fail
  refine H.out _ _ (⟨pk, pn, ps⟩, pe) ?_ HF.out HP.out
  exact ⟨rfl, rfl, rfl, rfl, trivial⟩
set_option linter.unusedVariables false in
set_option maxRecDepth 1000000 in
set_option maxHeartbeats 4000000 in
theorem rv_sub {Q : Exit → Act → World → Prop} {a : Act} (ho : o.toNat = 5) (hF : Fr 178 a [(3, .pointer (some ⟨gX, 0, none⟩)), (6, .pointer (some ⟨gR, 0, none⟩)), (8, .slice Al 2 cl), (10, .int .i64 2)]) (hX : Blk w2 gX 28 #[.int .u8 (o.toNat : Int), .int .u8 (k.toNat : Int), .int .i64 n, .string s, .string nm, .string of, .int .i64 N, .slice A m c]) (hZ : Blk w2 gR 25 #[.int .u8 0, .int .i64 0, .string ⟨#[]⟩]) (hR : w.heap.size ≤ gR) (hB : Below w.heap.size w w2) (hl : Rv w2 w2.heap.size Al 2 l)
    (h : ∀ a' w' p, Fr 178 a' [(6, .pointer (some ⟨gR, 0, none⟩)), (7, .int .i64 (p.2 : Int))] → Fin w gR p w' → p = Ev.opn o l → Q .ret a' w') : (rv 5).wp Tryz.prog Q a w2 := by
  conv => arg 2; whnf
  obtain ⟨f, rfl, ⟨s3, s6, s8, s10, _⟩, hfr⟩ := hF.open178
  rw [hfr] at s3 s6 s8 s10
  rw [s3, s6, s8, s10]
  clear hF hfr s3 s6 s8 s10
  have H := hide h
  have HB := hide hB
  have HZ := hide hZ
  have HL := hide hl
  have x0 := hX.cell 0
  have x1 := hX.cell 1
  have x2 := hX.cell 2
  have x3 := hX.cell 3
  have x4 := hX.cell 4
  have x5 := hX.cell 5
  have x6 := hX.cell 6
  have x7 := hX.cell 7
  simp at x0 x1 x2 x3 x4 x5 x6 x7
  have hlen := hl.len
  clear h hB hZ hl hX
  have t3 : ((o.toNat : Int) == 3) = false := by simp; omega
  have t4 : ((o.toNat : Int) == 4) = false := by simp; omega
  have t5 : ((o.toNat : Int) == 5) = true := by simp; omega
  obtain ⟨b, off, k1, n1, s1, rfl, hbl, hl0, c0, c1, c2, hok⟩ := HL.out.at (k := 0) (by omega)
  obtain ⟨b2, off2, k2, n2, s2, e, hbl2, hl1, d0, d1, d2, hok2⟩ := HL.out.at (k := 1) (by omega)
  injection e with e
  injection e with e1 e2
  subst e1 e2
  rw [Nat.zero_mul, Nat.add_zero] at c0 c1 c2
  rw [Nat.one_mul] at d0 d1 d2
  obtain ⟨h1n, h1m⟩ := hok.2
  obtain ⟨h2n, h2m⟩ := hok2.2
  obtain rfl : l = [⟨k1, n1, s1⟩, ⟨k2, n2, s2⟩] := by
    match l, hlen, hl0, hl1 with
    | [v, u], _, h, h' => injection h with h; injection h' with h'; rw [h, h']
  clear hl0 hl1 hlen hok hok2
  simp only at h1n h1m h2n h2m
  obtain ⟨⟨⟨pk, pn, ps⟩, pe⟩, hp⟩ : ∃ p, p = Val.sub ⟨k1, n1, s1⟩ ⟨k2, n2, s2⟩ := ⟨_, rfl⟩
  have HP : Hid ((⟨pk, pn, ps⟩, pe) = Ev.opn o [⟨k1, n1, s1⟩, ⟨k2, n2, s2⟩]) := by show _ = _; rw [hp, Ev.o_eq ho]; rfl
  have HQ := hide hp
  clear hp ho
  go_upto_region 12 with fail
  have hTs := tab_stable (l := [(6, NoF)]) (fun p hp => by
      simp only [List.mem_cons, List.not_mem_nil, or_false] at hp
      subst hp
      exact NoF.stable)
  have hSs := shp_some (l := [(6, IsV (.tuple #[.agg #[.int .u8 (pk.toNat : Int), .int .i64 pn, .string ps], .int .i64 (pe : Int)]))]) (fun p hp => by
      simp only [List.mem_cons, List.not_mem_nil, or_false] at hp
      subst hp
      exact IsV.some _)
  have HTs := hide hTs
  have HSs := hide hSs
  clear hTs hSs
  refine wp_region_toldL (tab [(6, NoF)]) (Up w2) (w2.heap.size) 9 (shp [(6, IsV (.tuple #[.agg #[.int .u8 (pk.toNat : Int), .int .i64 pn, .string ps], .int .i64 (pe : Int)]))]) (HSs.out) (HTs.out) (Up.lives _) Gro (Gro.turns (Up.lives _) (HTs.out)) (by kernel_rfl) (by kernel_rfl) (Up.start _) (Nat.le_refl _) ?_
  simp only [List.take_succ_cons, List.take_zero, List.drop_succ_cons, List.drop_zero]
  refine wpTold_read ?_ rfl rfl (fun w' hS => ?_) ?_
  rotate_left
  · go_simp
    rfl
  go_frame
  refine wpTold_read ?_ rfl rfl (fun w' hS => ?_) ?_
  rotate_left
  · go_simp
    rfl
  go_frame
  refine wpTold_read ?_ rfl rfl (fun w' hS => ?_) ?_
  rotate_left
  · have l0 := (hS.cell (p := ⟨b, off, none⟩) hbl).trans c0
    have l1 := (hS.cell (p := ⟨b, off + 1, none⟩) hbl).trans c1
    have l2 := (hS.cell (p := ⟨b, off + 2, none⟩) hbl).trans c2
    go_simp
    rfl
  go_frame
  refine wpTold_read ?_ rfl rfl (fun w' hS => ?_) ?_
  rotate_left
  · go_simp
    rfl
  go_frame
  refine wpTold_read ?_ rfl rfl (fun w' hS => ?_) ?_
  rotate_left
  · go_simp
    rfl
  go_frame
  refine wpTold_read ?_ rfl rfl (fun w' hS => ?_) ?_
  rotate_left
  · have l0 := (hS.cell (p := ⟨b, off + 3, none⟩) hbl).trans d0
    have l1 := (hS.cell (p := ⟨b, off + 3 + 1, none⟩) hbl).trans d1
    have l2 := (hS.cell (p := ⟨b, off + 3 + 2, none⟩) hbl).trans d2
    go_simp
    rfl
  go_frame
  refine' wpTold_call _ _ _ rfl rfl (fun w' => ?_) (fun w' hS hh hs => ?_) (fun v6 h6 => ?_)
  rotate_left 2
  · go_simp
    constructor <;> rfl
  · have cc := rSub_any k1 n1 s1 k2 n2 s2 w' h1n h1m h2n h2m
    rw [← HQ.out, ansV_mk] at cc
    refine cc.mono ?_
    rintro e w9 ⟨rfl, hb⟩
    exact ⟨_, rfl, ⟨rfl, trivial⟩, hb⟩
  obtain rfl := h6
  go_frame
  refine wpTold_read ?_ rfl rfl (fun w' hS => ?_) ?_
  rotate_left
  · go_simp
    rfl
  go_frame
  refine wpTold_read ?_ rfl rfl (fun w' hS => ?_) ?_
  rotate_left
  · go_simp
    rfl
  go_frame
  refine wpTold_nil fun w6 hH => ?_
  have hup : Below w2.heap.size w2 w6 := hH.s
  replace HZ := hide (HZ.out.below hup HZ.out.lt)
  replace HB := hide (HB.out.trans (hup.mono HB.out.size))
  clear hH hup c0 c1 c2 d0 d1 d2 x0 x1 x2 x3 x4 x5 x6 x7
  have z0 := HZ.out.cell 0
  have z1 := HZ.out.cell 1
  have z2 := HZ.out.cell 2
  simp at z0 z1 z2
  have f0 := HZ.out.frozen 0
  have f1 := HZ.out.frozen 1
  have f2 := HZ.out.frozen 2
  have HF : Hid (Fin w gR (⟨pk, pn, ps⟩, pe) (((w6.setCell ⟨gR, 0, none⟩ (.int .u8 (pk.toNat : Int))).setCell ⟨gR, 1, none⟩ (.int .i64 pn)).setCell ⟨gR, 2, none⟩ (.string ps))) := ⟨blk3 HZ.out _ _ _, below3 HB.out hR _ _ _⟩
  go_wp2_with fail
  refine H.out _ _ (⟨pk, pn, ps⟩, pe) ?_ HF.out HP.out
  exact ⟨rfl, rfl, rfl, rfl, trivial⟩
set_option linter.unusedVariables false in
set_option maxRecDepth 1000000 in
set_option maxHeartbeats 4000000 in
theorem rv_mul {Q : Exit → Act → World → Prop} {a : Act} (ho : o.toNat = 6) (hF : Fr 178 a [(3, .pointer (some ⟨gX, 0, none⟩)), (6, .pointer (some ⟨gR, 0, none⟩)), (8, .slice Al 2 cl), (10, .int .i64 2)]) (hX : Blk w2 gX 28 #[.int .u8 (o.toNat : Int), .int .u8 (k.toNat : Int), .int .i64 n, .string s, .string nm, .string of, .int .i64 N, .slice A m c]) (hZ : Blk w2 gR 25 #[.int .u8 0, .int .i64 0, .string ⟨#[]⟩]) (hR : w.heap.size ≤ gR) (hB : Below w.heap.size w w2) (hl : Rv w2 w2.heap.size Al 2 l)
    (h : ∀ a' w' p, Fr 178 a' [(6, .pointer (some ⟨gR, 0, none⟩)), (7, .int .i64 (p.2 : Int))] → Fin w gR p w' → p = Ev.opn o l → Q .ret a' w') : (rv 5).wp Tryz.prog Q a w2 := by
  conv => arg 2; whnf
  obtain ⟨f, rfl, ⟨s3, s6, s8, s10, _⟩, hfr⟩ := hF.open178
  rw [hfr] at s3 s6 s8 s10
  rw [s3, s6, s8, s10]
  clear hF hfr s3 s6 s8 s10
  have H := hide h
  have HB := hide hB
  have HZ := hide hZ
  have HL := hide hl
  have x0 := hX.cell 0
  have x1 := hX.cell 1
  have x2 := hX.cell 2
  have x3 := hX.cell 3
  have x4 := hX.cell 4
  have x5 := hX.cell 5
  have x6 := hX.cell 6
  have x7 := hX.cell 7
  simp at x0 x1 x2 x3 x4 x5 x6 x7
  have hlen := hl.len
  clear h hB hZ hl hX
  have t3 : ((o.toNat : Int) == 3) = false := by simp; omega
  have t4 : ((o.toNat : Int) == 4) = false := by simp; omega
  have t5 : ((o.toNat : Int) == 5) = false := by simp; omega
  have t6 : ((o.toNat : Int) == 6) = true := by simp; omega
  obtain ⟨b, off, k1, n1, s1, rfl, hbl, hl0, c0, c1, c2, hok⟩ := HL.out.at (k := 0) (by omega)
  obtain ⟨b2, off2, k2, n2, s2, e, hbl2, hl1, d0, d1, d2, hok2⟩ := HL.out.at (k := 1) (by omega)
  injection e with e
  injection e with e1 e2
  subst e1 e2
  rw [Nat.zero_mul, Nat.add_zero] at c0 c1 c2
  rw [Nat.one_mul] at d0 d1 d2
  obtain ⟨h1n, h1m⟩ := hok.2
  obtain ⟨h2n, h2m⟩ := hok2.2
  obtain rfl : l = [⟨k1, n1, s1⟩, ⟨k2, n2, s2⟩] := by
    match l, hlen, hl0, hl1 with
    | [v, u], _, h, h' => injection h with h; injection h' with h'; rw [h, h']
  clear hl0 hl1 hlen hok hok2
  simp only at h1n h1m h2n h2m
  obtain ⟨⟨⟨pk, pn, ps⟩, pe⟩, hp⟩ : ∃ p, p = Val.mul ⟨k1, n1, s1⟩ ⟨k2, n2, s2⟩ := ⟨_, rfl⟩
  have HP : Hid ((⟨pk, pn, ps⟩, pe) = Ev.opn o [⟨k1, n1, s1⟩, ⟨k2, n2, s2⟩]) := by show _ = _; rw [hp, Ev.o_eq ho]; rfl
  have HQ := hide hp
  clear hp ho
  go_upto_region 14 with fail
  have hTs := tab_stable (l := [(6, NoF)]) (fun p hp => by
      simp only [List.mem_cons, List.not_mem_nil, or_false] at hp
      subst hp
      exact NoF.stable)
  have hSs := shp_some (l := [(6, IsV (.tuple #[.agg #[.int .u8 (pk.toNat : Int), .int .i64 pn, .string ps], .int .i64 (pe : Int)]))]) (fun p hp => by
      simp only [List.mem_cons, List.not_mem_nil, or_false] at hp
      subst hp
      exact IsV.some _)
  have HTs := hide hTs
  have HSs := hide hSs
  clear hTs hSs
  refine wp_region_toldL (tab [(6, NoF)]) (Up w2) (w2.heap.size) 9 (shp [(6, IsV (.tuple #[.agg #[.int .u8 (pk.toNat : Int), .int .i64 pn, .string ps], .int .i64 (pe : Int)]))]) (HSs.out) (HTs.out) (Up.lives _) Gro (Gro.turns (Up.lives _) (HTs.out)) (by kernel_rfl) (by kernel_rfl) (Up.start _) (Nat.le_refl _) ?_
  simp only [List.take_succ_cons, List.take_zero, List.drop_succ_cons, List.drop_zero]
  refine wpTold_read ?_ rfl rfl (fun w' hS => ?_) ?_
  rotate_left
  · go_simp
    rfl
  go_frame
  refine wpTold_read ?_ rfl rfl (fun w' hS => ?_) ?_
  rotate_left
  · go_simp
    rfl
  go_frame
  refine wpTold_read ?_ rfl rfl (fun w' hS => ?_) ?_
  rotate_left
  · have l0 := (hS.cell (p := ⟨b, off, none⟩) hbl).trans c0
    have l1 := (hS.cell (p := ⟨b, off + 1, none⟩) hbl).trans c1
    have l2 := (hS.cell (p := ⟨b, off + 2, none⟩) hbl).trans c2
    go_simp
    rfl
  go_frame
  refine wpTold_read ?_ rfl rfl (fun w' hS => ?_) ?_
  rotate_left
  · go_simp
    rfl
  go_frame
  refine wpTold_read ?_ rfl rfl (fun w' hS => ?_) ?_
  rotate_left
  · go_simp
    rfl
  go_frame
  refine wpTold_read ?_ rfl rfl (fun w' hS => ?_) ?_
  rotate_left
  · have l0 := (hS.cell (p := ⟨b, off + 3, none⟩) hbl).trans d0
    have l1 := (hS.cell (p := ⟨b, off + 3 + 1, none⟩) hbl).trans d1
    have l2 := (hS.cell (p := ⟨b, off + 3 + 2, none⟩) hbl).trans d2
    go_simp
    rfl
  go_frame
  refine' wpTold_call _ _ _ rfl rfl (fun w' => ?_) (fun w' hS hh hs => ?_) (fun v6 h6 => ?_)
  rotate_left 2
  · go_simp
    constructor <;> rfl
  · have cc := rMul_any k1 n1 s1 k2 n2 s2 w' h1n h1m h2n h2m
    rw [← HQ.out, ansV_mk] at cc
    refine cc.mono ?_
    rintro e w9 ⟨rfl, hb⟩
    exact ⟨_, rfl, ⟨rfl, trivial⟩, hb⟩
  obtain rfl := h6
  go_frame
  refine wpTold_read ?_ rfl rfl (fun w' hS => ?_) ?_
  rotate_left
  · go_simp
    rfl
  go_frame
  refine wpTold_read ?_ rfl rfl (fun w' hS => ?_) ?_
  rotate_left
  · go_simp
    rfl
  go_frame
  refine wpTold_nil fun w6 hH => ?_
  have hup : Below w2.heap.size w2 w6 := hH.s
  replace HZ := hide (HZ.out.below hup HZ.out.lt)
  replace HB := hide (HB.out.trans (hup.mono HB.out.size))
  clear hH hup c0 c1 c2 d0 d1 d2 x0 x1 x2 x3 x4 x5 x6 x7
  have z0 := HZ.out.cell 0
  have z1 := HZ.out.cell 1
  have z2 := HZ.out.cell 2
  simp at z0 z1 z2
  have f0 := HZ.out.frozen 0
  have f1 := HZ.out.frozen 1
  have f2 := HZ.out.frozen 2
  have HF : Hid (Fin w gR (⟨pk, pn, ps⟩, pe) (((w6.setCell ⟨gR, 0, none⟩ (.int .u8 (pk.toNat : Int))).setCell ⟨gR, 1, none⟩ (.int .i64 pn)).setCell ⟨gR, 2, none⟩ (.string ps))) := ⟨blk3 HZ.out _ _ _, below3 HB.out hR _ _ _⟩
  go_wp2_with fail
  refine H.out _ _ (⟨pk, pn, ps⟩, pe) ?_ HF.out HP.out
  exact ⟨rfl, rfl, rfl, rfl, trivial⟩
theorem opn_cmp (h7 : 7 ≤ o.toNat) (h12 : o.toNat ≤ 12) (x y : Cell.Val) : Ev.opn o [x, y] = Ev.cmp2 o.toNat x y := by
  have : o.toNat = 7 ∨ o.toNat = 8 ∨ o.toNat = 9 ∨ o.toNat = 10 ∨ o.toNat = 11 ∨ o.toNat = 12 := by omega
  rcases this with h | h | h | h | h | h <;> rw [Ev.o_eq h] <;> rfl
set_option linter.unusedVariables false in
set_option maxRecDepth 1000000 in
set_option maxHeartbeats 4000000 in
theorem rv_cmp {Q : Exit → Act → World → Prop} {a : Act} (h7 : 7 ≤ o.toNat) (h12 : o.toNat ≤ 12) (hF : Fr 178 a [(3, .pointer (some ⟨gX, 0, none⟩)), (6, .pointer (some ⟨gR, 0, none⟩)), (8, .slice Al 2 cl), (10, .int .i64 2)]) (hX : Blk w2 gX 28 #[.int .u8 (o.toNat : Int), .int .u8 (k.toNat : Int), .int .i64 n, .string s, .string nm, .string of, .int .i64 N, .slice A m c]) (hZ : Blk w2 gR 25 #[.int .u8 0, .int .i64 0, .string ⟨#[]⟩]) (hR : w.heap.size ≤ gR) (hB : Below w.heap.size w w2) (hl : Rv w2 w2.heap.size Al 2 l)
    (h : ∀ a' w' p, Fr 178 a' [(6, .pointer (some ⟨gR, 0, none⟩)), (7, .int .i64 (p.2 : Int))] → Fin w gR p w' → p = Ev.opn o l → Q .ret a' w') : (rv 5).wp Tryz.prog Q a w2 := by
  conv => arg 2; whnf
  obtain ⟨f, rfl, ⟨s3, s6, s8, s10, _⟩, hfr⟩ := hF.open178
  rw [hfr] at s3 s6 s8 s10
  rw [s3, s6, s8, s10]
  clear hF hfr s3 s6 s8 s10
  have H := hide h
  have HB := hide hB
  have HZ := hide hZ
  have HL := hide hl
  have x0 := hX.cell 0
  have x1 := hX.cell 1
  have x2 := hX.cell 2
  have x3 := hX.cell 3
  have x4 := hX.cell 4
  have x5 := hX.cell 5
  have x6 := hX.cell 6
  have x7 := hX.cell 7
  simp at x0 x1 x2 x3 x4 x5 x6 x7
  have hlen := hl.len
  have HXlt := hX.lt
  clear h hB hZ hl hX
  have HXl := hide (show gX < w2.heap.size from HXlt)
  have t3 : ((o.toNat : Int) == 3) = false := by simp; omega
  have t4 : ((o.toNat : Int) == 4) = false := by simp; omega
  have t5 : ((o.toNat : Int) == 5) = false := by simp; omega
  have t6 : ((o.toNat : Int) == 6) = false := by simp; omega
  have t7 : decide ((7 : Int) ≤ (o.toNat : Int)) = true := decide_eq_true (by omega)
  have t12 : decide ((o.toNat : Int) ≤ 12) = true := decide_eq_true (by omega)
  obtain ⟨b, off, k1, n1, s1, rfl, hbl, hl0, c0, c1, c2, hok⟩ := HL.out.at (k := 0) (by omega)
  obtain ⟨b2, off2, k2, n2, s2, e, hbl2, hl1, d0, d1, d2, hok2⟩ := HL.out.at (k := 1) (by omega)
  injection e with e
  injection e with e1 e2
  subst e1 e2
  rw [Nat.zero_mul, Nat.add_zero] at c0 c1 c2
  rw [Nat.one_mul] at d0 d1 d2
  obtain ⟨h1n, h1m⟩ := hok.2
  obtain ⟨h2n, h2m⟩ := hok2.2
  obtain rfl : l = [⟨k1, n1, s1⟩, ⟨k2, n2, s2⟩] := by
    match l, hlen, hl0, hl1 with
    | [v, u], _, h, h' => injection h with h; injection h' with h'; rw [h, h']
  clear hl0 hl1 hlen hok hok2
  simp only at h1n h1m h2n h2m
  obtain ⟨⟨pt, pe⟩, hp⟩ : ∃ p, p = Val.compare o.toNat ⟨k1, n1, s1⟩ ⟨k2, n2, s2⟩ := ⟨_, rfl⟩
  have HO : Hid (Ev.opn o [⟨k1, n1, s1⟩, ⟨k2, n2, s2⟩] = Ev.cmp2 o.toNat ⟨k1, n1, s1⟩ ⟨k2, n2, s2⟩) := opn_cmp h7 h12 _ _
  have HQ := hide hp
  clear hp h7 h12
  go_upto_region 16 with fail
  have hTs := tab_stable (l := [(8, NoF)]) (fun p hp => by
      simp only [List.mem_cons, List.not_mem_nil, or_false] at hp
      subst hp
      exact NoF.stable)
  have hSs := shp_some (l := [(8, IsV (.tuple #[.int .u8 (pt : Int), .int .i64 (pe : Int)]))]) (fun p hp => by
      simp only [List.mem_cons, List.not_mem_nil, or_false] at hp
      subst hp
      exact IsV.some _)
  have HTs := hide hTs
  have HSs := hide hSs
  clear hTs hSs
  refine wp_region_toldL (tab [(8, NoF)]) (Up w2) (w2.heap.size) 14 (shp [(8, IsV (.tuple #[.int .u8 (pt : Int), .int .i64 (pe : Int)]))]) (HSs.out) (HTs.out) (Up.lives _) Gro (Gro.turns (Up.lives _) (HTs.out)) (by kernel_rfl) (by kernel_rfl) (Up.start _) (Nat.le_refl _) ?_
  simp only [List.take_succ_cons, List.take_zero, List.drop_succ_cons, List.drop_zero]
  refine wpTold_read ?_ rfl rfl (fun w' hS => ?_) ?_
  rotate_left
  · go_simp
    rfl
  go_frame
  refine wpTold_read ?_ rfl rfl (fun w' hS => ?_) ?_
  rotate_left
  · have l0 := (hS.cell (p := ⟨gX, 0, none⟩) HXl.out).trans x0
    go_simp
    rfl
  go_frame
  refine wpTold_read ?_ rfl rfl (fun w' hS => ?_) ?_
  rotate_left
  · go_simp
    rfl
  go_frame
  refine wpTold_read ?_ rfl rfl (fun w' hS => ?_) ?_
  rotate_left
  · go_simp
    rfl
  go_frame
  refine wpTold_read ?_ rfl rfl (fun w' hS => ?_) ?_
  rotate_left
  · have l0 := (hS.cell (p := ⟨b, off, none⟩) hbl).trans c0
    have l1 := (hS.cell (p := ⟨b, off + 1, none⟩) hbl).trans c1
    have l2 := (hS.cell (p := ⟨b, off + 2, none⟩) hbl).trans c2
    go_simp
    rfl
  go_frame
  refine wpTold_read ?_ rfl rfl (fun w' hS => ?_) ?_
  rotate_left
  · go_simp
    rfl
  go_frame
  refine wpTold_read ?_ rfl rfl (fun w' hS => ?_) ?_
  rotate_left
  · go_simp
    rfl
  go_frame
  refine wpTold_read ?_ rfl rfl (fun w' hS => ?_) ?_
  rotate_left
  · have l0 := (hS.cell (p := ⟨b, off + 3, none⟩) hbl).trans d0
    have l1 := (hS.cell (p := ⟨b, off + 3 + 1, none⟩) hbl).trans d1
    have l2 := (hS.cell (p := ⟨b, off + 3 + 2, none⟩) hbl).trans d2
    go_simp
    rfl
  go_frame
  refine' wpTold_call _ _ _ rfl rfl (fun w' => ?_) (fun w' hS hh hs => ?_) (fun v8 h8 => ?_)
  rotate_left 2
  · go_simp
    constructor <;> rfl
  · have cc := rCompare_any o.toNat k1 n1 s1 k2 n2 s2 w' h1n h1m h2n h2m
    rw [← HQ.out] at cc
    unfold truV at cc
    refine cc.mono ?_
    rintro e w9 ⟨rfl, hb⟩
    exact ⟨_, rfl, ⟨rfl, trivial⟩, hb⟩
  obtain rfl := h8
  go_frame
  refine wpTold_read ?_ rfl rfl (fun w' hS => ?_) ?_
  rotate_left
  · go_simp
    rfl
  go_frame
  refine wpTold_read ?_ rfl rfl (fun w' hS => ?_) ?_
  rotate_left
  · go_simp
    rfl
  go_frame
  refine wpTold_read ?_ rfl rfl (fun w' hS => ?_) ?_
  rotate_left
  · go_simp
    rfl
  go_frame
  refine wpTold_read ?_ rfl rfl (fun w' hS => ?_) ?_
  rotate_left
  · go_simp
    rfl
  go_frame
  refine wpTold_read ?_ rfl rfl (fun w' hS => ?_) ?_
  rotate_left
  · go_simp
    rfl
  go_frame
  refine wpTold_nil fun w6 hH => ?_
  have hup : Below w2.heap.size w2 w6 := hH.s
  replace HZ := hide (HZ.out.below hup HZ.out.lt)
  replace HB := hide (HB.out.trans (hup.mono HB.out.size))
  clear hH hup c0 c1 c2 d0 d1 d2 x0 x1 x2 x3 x4 x5 x6 x7
  by_cases he : pe = 0
  · subst he
    have HP : Hid ((Lg.of_ pt, 0) = Ev.opn o [⟨k1, n1, s1⟩, ⟨k2, n2, s2⟩]) := by
      show _ = _
      rw [HO.out]
      unfold Ev.cmp2
      rw [← HQ.out, if_neg (by simp)]
    obtain ⟨⟨pk, pn, ps⟩, hq⟩ : ∃ p, p = Lg.of_ pt := ⟨_, rfl⟩
    have HR := hide hq
    clear hq
    go_wp2_with fail
    have cc := rOf_any pt w6
    rw [← HR.out] at cc
    unfold valV at cc
    with_reducible refine cc.mono ?_
    clear cc
    rintro e w7 ⟨rfl, hb⟩
    rw [← HR.out] at HP
    replace HZ := hide (HZ.out.below hb HZ.out.lt)
    replace HB := hide (HB.out.trans (hb.mono HB.out.size))
    clear hb
    have z0 := HZ.out.cell 0
    have z1 := HZ.out.cell 1
    have z2 := HZ.out.cell 2
    simp at z0 z1 z2
    have f0 := HZ.out.frozen 0
    have f1 := HZ.out.frozen 1
    have f2 := HZ.out.frozen 2
    have HF : Hid (Fin w gR (⟨pk, pn, ps⟩, 0) (((w7.setCell ⟨gR, 0, none⟩ (.int .u8 (pk.toNat : Int))).setCell ⟨gR, 1, none⟩ (.int .i64 pn)).setCell ⟨gR, 2, none⟩ (.string ps))) := ⟨blk3 HZ.out _ _ _, below3 HB.out hR _ _ _⟩
    go_wp2_with fail
    refine H.out _ _ (⟨pk, pn, ps⟩, 0) ?_ HF.out HP.out
    exact ⟨rfl, rfl, rfl, rfl, trivial⟩
  · have te : ((pe : Int) != 0) = true := by simp; omega
    have HP : Hid ((Val.vz, pe) = Ev.opn o [⟨k1, n1, s1⟩, ⟨k2, n2, s2⟩]) := by
      show _ = _
      rw [HO.out]
      unfold Ev.cmp2
      rw [← HQ.out, if_pos he]
    clear he
    have z0 := HZ.out.cell 0
    have z1 := HZ.out.cell 1
    have z2 := HZ.out.cell 2
    simp at z0 z1 z2
    have f0 := HZ.out.frozen 0
    have f1 := HZ.out.frozen 1
    have f2 := HZ.out.frozen 2
    have HF : Hid (Fin w gR (Val.vz, pe) (((w6.setCell ⟨gR, 0, none⟩ (.int .u8 0)).setCell ⟨gR, 1, none⟩ (.int .i64 0)).setCell ⟨gR, 2, none⟩ (.string ⟨#[]⟩))) := ⟨blk3 HZ.out _ _ _, below3 HB.out hR _ _ _⟩
    go_wp2_with fail
    refine H.out _ _ (Val.vz, pe) ?_ HF.out HP.out
    exact ⟨rfl, rfl, rfl, rfl, trivial⟩
set_option linter.unusedVariables false in
set_option maxRecDepth 1000000 in
set_option maxHeartbeats 4000000 in
theorem rv_and {Q : Exit → Act → World → Prop} {a : Act} (ho : o.toNat = 13) (hF : Fr 178 a [(3, .pointer (some ⟨gX, 0, none⟩)), (6, .pointer (some ⟨gR, 0, none⟩)), (8, .slice Al 2 cl), (10, .int .i64 2)]) (hX : Blk w2 gX 28 #[.int .u8 (o.toNat : Int), .int .u8 (k.toNat : Int), .int .i64 n, .string s, .string nm, .string of, .int .i64 N, .slice A m c]) (hZ : Blk w2 gR 25 #[.int .u8 0, .int .i64 0, .string ⟨#[]⟩]) (hR : w.heap.size ≤ gR) (hB : Below w.heap.size w w2) (hl : Rv w2 w2.heap.size Al 2 l)
    (h : ∀ a' w' p, Fr 178 a' [(6, .pointer (some ⟨gR, 0, none⟩)), (7, .int .i64 (p.2 : Int))] → Fin w gR p w' → p = Ev.opn o l → Q .ret a' w') : (rv 5).wp Tryz.prog Q a w2 := by
  conv => arg 2; whnf
  obtain ⟨f, rfl, ⟨s3, s6, s8, s10, _⟩, hfr⟩ := hF.open178
  rw [hfr] at s3 s6 s8 s10
  rw [s3, s6, s8, s10]
  clear hF hfr s3 s6 s8 s10
  have H := hide h
  have HB := hide hB
  have HZ := hide hZ
  have HL := hide hl
  have x0 := hX.cell 0
  have x1 := hX.cell 1
  have x2 := hX.cell 2
  have x3 := hX.cell 3
  have x4 := hX.cell 4
  have x5 := hX.cell 5
  have x6 := hX.cell 6
  have x7 := hX.cell 7
  simp at x0 x1 x2 x3 x4 x5 x6 x7
  have hlen := hl.len
  clear h hB hZ hl hX
  have t3 : ((o.toNat : Int) == 3) = false := by simp; omega
  have t4 : ((o.toNat : Int) == 4) = false := by simp; omega
  have t5 : ((o.toNat : Int) == 5) = false := by simp; omega
  have t6 : ((o.toNat : Int) == 6) = false := by simp; omega
  have t7 : decide ((7 : Int) ≤ (o.toNat : Int)) = true := decide_eq_true (by omega)
  have t12 : decide ((o.toNat : Int) ≤ 12) = false := decide_eq_false (by omega)
  have t13 : ((o.toNat : Int) == 13) = true := by simp; omega
  have t14 : ((o.toNat : Int) == 14) = false := by simp; omega
  have t15 : ((o.toNat : Int) == 15) = false := by simp; omega
  have t16 : ((o.toNat : Int) == 16) = false := by simp; omega
  obtain ⟨⟨⟨pk, pn, ps⟩, pe⟩, hp⟩ : ∃ p, p = Ev.lgn Ev.g_and l := ⟨_, rfl⟩
  have HP : Hid ((⟨pk, pn, ps⟩, pe) = Ev.opn o l) := by
    show _ = _
    obtain ⟨x, y, rfl⟩ : ∃ x y, l = [x, y] := by
      match l, hlen with
      | [x, y], _ => exact ⟨_, _, rfl⟩
    rw [hp, Ev.o_eq ho]
    exact Ev.lgn_two Lg.and_ x y
  have HQ := hide hp
  have HO := hide ho
  clear hp ho hlen
  go_wp2_with fail
  have cc := rlogic_and o Al cl l w2 HO.out HL.out
  rw [← HQ.out, ansV_mk] at cc
  with_reducible refine cc.mono ?_
  clear cc
  rintro e w3 ⟨rfl, hb⟩
  replace HZ := hide (HZ.out.below hb HZ.out.lt)
  replace HB := hide (HB.out.trans (hb.mono HB.out.size))
  clear hb x0 x1 x2 x3 x4 x5 x6 x7
  have z0 := HZ.out.cell 0
  have z1 := HZ.out.cell 1
  have z2 := HZ.out.cell 2
  simp at z0 z1 z2
  have f0 := HZ.out.frozen 0
  have f1 := HZ.out.frozen 1
  have f2 := HZ.out.frozen 2
  have HF : Hid (Fin w gR (⟨pk, pn, ps⟩, pe) (((w3.setCell ⟨gR, 0, none⟩ (.int .u8 (pk.toNat : Int))).setCell ⟨gR, 1, none⟩ (.int .i64 pn)).setCell ⟨gR, 2, none⟩ (.string ps))) := ⟨blk3 HZ.out _ _ _, below3 HB.out hR _ _ _⟩
  go_wp2_with fail
  refine H.out _ _ (⟨pk, pn, ps⟩, pe) ?_ HF.out HP.out
  exact ⟨rfl, rfl, rfl, rfl, trivial⟩
set_option linter.unusedVariables false in
set_option maxRecDepth 1000000 in
set_option maxHeartbeats 4000000 in
theorem rv_or {Q : Exit → Act → World → Prop} {a : Act} (ho : o.toNat = 14) (hF : Fr 178 a [(3, .pointer (some ⟨gX, 0, none⟩)), (6, .pointer (some ⟨gR, 0, none⟩)), (8, .slice Al 2 cl), (10, .int .i64 2)]) (hX : Blk w2 gX 28 #[.int .u8 (o.toNat : Int), .int .u8 (k.toNat : Int), .int .i64 n, .string s, .string nm, .string of, .int .i64 N, .slice A m c]) (hZ : Blk w2 gR 25 #[.int .u8 0, .int .i64 0, .string ⟨#[]⟩]) (hR : w.heap.size ≤ gR) (hB : Below w.heap.size w w2) (hl : Rv w2 w2.heap.size Al 2 l)
    (h : ∀ a' w' p, Fr 178 a' [(6, .pointer (some ⟨gR, 0, none⟩)), (7, .int .i64 (p.2 : Int))] → Fin w gR p w' → p = Ev.opn o l → Q .ret a' w') : (rv 5).wp Tryz.prog Q a w2 := by
  conv => arg 2; whnf
  obtain ⟨f, rfl, ⟨s3, s6, s8, s10, _⟩, hfr⟩ := hF.open178
  rw [hfr] at s3 s6 s8 s10
  rw [s3, s6, s8, s10]
  clear hF hfr s3 s6 s8 s10
  have H := hide h
  have HB := hide hB
  have HZ := hide hZ
  have HL := hide hl
  have x0 := hX.cell 0
  have x1 := hX.cell 1
  have x2 := hX.cell 2
  have x3 := hX.cell 3
  have x4 := hX.cell 4
  have x5 := hX.cell 5
  have x6 := hX.cell 6
  have x7 := hX.cell 7
  simp at x0 x1 x2 x3 x4 x5 x6 x7
  have hlen := hl.len
  clear h hB hZ hl hX
  have t3 : ((o.toNat : Int) == 3) = false := by simp; omega
  have t4 : ((o.toNat : Int) == 4) = false := by simp; omega
  have t5 : ((o.toNat : Int) == 5) = false := by simp; omega
  have t6 : ((o.toNat : Int) == 6) = false := by simp; omega
  have t7 : decide ((7 : Int) ≤ (o.toNat : Int)) = true := decide_eq_true (by omega)
  have t12 : decide ((o.toNat : Int) ≤ 12) = false := decide_eq_false (by omega)
  have t13 : ((o.toNat : Int) == 13) = false := by simp; omega
  have t14 : ((o.toNat : Int) == 14) = true := by simp; omega
  have t15 : ((o.toNat : Int) == 15) = false := by simp; omega
  have t16 : ((o.toNat : Int) == 16) = false := by simp; omega
  obtain ⟨⟨⟨pk, pn, ps⟩, pe⟩, hp⟩ : ∃ p, p = Ev.lgn Ev.g_or l := ⟨_, rfl⟩
  have HP : Hid ((⟨pk, pn, ps⟩, pe) = Ev.opn o l) := by
    show _ = _
    obtain ⟨x, y, rfl⟩ : ∃ x y, l = [x, y] := by
      match l, hlen with
      | [x, y], _ => exact ⟨_, _, rfl⟩
    rw [hp, Ev.o_eq ho]
    exact Ev.lgn_two Lg.or_ x y
  have HQ := hide hp
  have HO := hide ho
  clear hp ho hlen
  go_wp2_with fail
  have cc := rlogic_or o Al cl l w2 HO.out HL.out
  rw [← HQ.out, ansV_mk] at cc
  with_reducible refine cc.mono ?_
  clear cc
  rintro e w3 ⟨rfl, hb⟩
  replace HZ := hide (HZ.out.below hb HZ.out.lt)
  replace HB := hide (HB.out.trans (hb.mono HB.out.size))
  clear hb x0 x1 x2 x3 x4 x5 x6 x7
  have z0 := HZ.out.cell 0
  have z1 := HZ.out.cell 1
  have z2 := HZ.out.cell 2
  simp at z0 z1 z2
  have f0 := HZ.out.frozen 0
  have f1 := HZ.out.frozen 1
  have f2 := HZ.out.frozen 2
  have HF : Hid (Fin w gR (⟨pk, pn, ps⟩, pe) (((w3.setCell ⟨gR, 0, none⟩ (.int .u8 (pk.toNat : Int))).setCell ⟨gR, 1, none⟩ (.int .i64 pn)).setCell ⟨gR, 2, none⟩ (.string ps))) := ⟨blk3 HZ.out _ _ _, below3 HB.out hR _ _ _⟩
  go_wp2_with fail
  refine H.out _ _ (⟨pk, pn, ps⟩, pe) ?_ HF.out HP.out
  exact ⟨rfl, rfl, rfl, rfl, trivial⟩
set_option linter.unusedVariables false in
set_option maxRecDepth 1000000 in
set_option maxHeartbeats 4000000 in
theorem rv_not {Q : Exit → Act → World → Prop} {a : Act} (ho : o.toNat = 15) (hF : Fr 178 a [(3, .pointer (some ⟨gX, 0, none⟩)), (6, .pointer (some ⟨gR, 0, none⟩)), (8, .slice Al 1 cl), (10, .int .i64 1)]) (hX : Blk w2 gX 28 #[.int .u8 (o.toNat : Int), .int .u8 (k.toNat : Int), .int .i64 n, .string s, .string nm, .string of, .int .i64 N, .slice A m c]) (hZ : Blk w2 gR 25 #[.int .u8 0, .int .i64 0, .string ⟨#[]⟩]) (hR : w.heap.size ≤ gR) (hB : Below w.heap.size w w2) (hl : Rv w2 w2.heap.size Al 1 l)
    (h : ∀ a' w' p, Fr 178 a' [(6, .pointer (some ⟨gR, 0, none⟩)), (7, .int .i64 (p.2 : Int))] → Fin w gR p w' → p = Ev.opn o l → Q .ret a' w') : (rv 5).wp Tryz.prog Q a w2 := by
  conv => arg 2; whnf
  obtain ⟨f, rfl, ⟨s3, s6, s8, s10, _⟩, hfr⟩ := hF.open178
  rw [hfr] at s3 s6 s8 s10
  rw [s3, s6, s8, s10]
  clear hF hfr s3 s6 s8 s10
  have H := hide h
  have HB := hide hB
  have HZ := hide hZ
  have HL := hide hl
  have x0 := hX.cell 0
  have x1 := hX.cell 1
  have x2 := hX.cell 2
  have x3 := hX.cell 3
  have x4 := hX.cell 4
  have x5 := hX.cell 5
  have x6 := hX.cell 6
  have x7 := hX.cell 7
  simp at x0 x1 x2 x3 x4 x5 x6 x7
  have hlen := hl.len
  clear h hB hZ hl hX
  have t3 : ((o.toNat : Int) == 3) = false := by simp; omega
  have t4 : ((o.toNat : Int) == 4) = false := by simp; omega
  have t5 : ((o.toNat : Int) == 5) = false := by simp; omega
  have t6 : ((o.toNat : Int) == 6) = false := by simp; omega
  have t7 : decide ((7 : Int) ≤ (o.toNat : Int)) = true := decide_eq_true (by omega)
  have t12 : decide ((o.toNat : Int) ≤ 12) = false := decide_eq_false (by omega)
  have t13 : ((o.toNat : Int) == 13) = false := by simp; omega
  have t14 : ((o.toNat : Int) == 14) = false := by simp; omega
  have t15 : ((o.toNat : Int) == 15) = true := by simp; omega
  have t16 : ((o.toNat : Int) == 16) = false := by simp; omega
  obtain ⟨⟨⟨pk, pn, ps⟩, pe⟩, hp⟩ : ∃ p, p = Ev.lgn Ev.g_not l := ⟨_, rfl⟩
  have HP : Hid ((⟨pk, pn, ps⟩, pe) = Ev.opn o l) := by
    show _ = _
    obtain ⟨x, rfl⟩ : ∃ x, l = [x] := by
      match l, hlen with
      | [x], _ => exact ⟨_, rfl⟩
    rw [hp, Ev.o_eq ho]
    exact Ev.lgn_one Lg.not_ x
  have HQ := hide hp
  have HO := hide ho
  clear hp ho hlen
  go_wp2_with fail
  have cc := rlogic_not o Al cl l w2 HO.out HL.out
  rw [← HQ.out, ansV_mk] at cc
  with_reducible refine cc.mono ?_
  clear cc
  rintro e w3 ⟨rfl, hb⟩
  replace HZ := hide (HZ.out.below hb HZ.out.lt)
  replace HB := hide (HB.out.trans (hb.mono HB.out.size))
  clear hb x0 x1 x2 x3 x4 x5 x6 x7
  have z0 := HZ.out.cell 0
  have z1 := HZ.out.cell 1
  have z2 := HZ.out.cell 2
  simp at z0 z1 z2
  have f0 := HZ.out.frozen 0
  have f1 := HZ.out.frozen 1
  have f2 := HZ.out.frozen 2
  have HF : Hid (Fin w gR (⟨pk, pn, ps⟩, pe) (((w3.setCell ⟨gR, 0, none⟩ (.int .u8 (pk.toNat : Int))).setCell ⟨gR, 1, none⟩ (.int .i64 pn)).setCell ⟨gR, 2, none⟩ (.string ps))) := ⟨blk3 HZ.out _ _ _, below3 HB.out hR _ _ _⟩
  go_wp2_with fail
  refine H.out _ _ (⟨pk, pn, ps⟩, pe) ?_ HF.out HP.out
  exact ⟨rfl, rfl, rfl, rfl, trivial⟩
end
end Go.Proofs.YticljmgcgjibpaaGreatDoor
