/-
  The walk of chanceryref24.Value, the rest: IS NULL, what is no operation, Value, Is. Conditions: what is read reads as a tree, and as a row.
-/
import Derived.Test.YticljmgcgjibpaaGreatDoorRfW
namespace Go.Proofs.YticljmgcgjibpaaGreatDoor
open Go.RowKit

section
variable {o k : UInt8} {n N : Int} {s nm of : ByteArray} {A Al : Option Addr} {m c cl gX gR q : Nat} {l : List Cell.Val} {w w2 : World}
set_option linter.unusedVariables false in
set_option maxRecDepth 1000000 in
set_option maxHeartbeats 4000000 in
theorem rv_nul {Q : Exit → Act → World → Prop} {a : Act} (ho : o.toNat = 16) (hF : Fr 178 a [(3, .pointer (some ⟨gX, 0, none⟩)), (6, .pointer (some ⟨gR, 0, none⟩)), (8, .slice Al 1 cl), (10, .int .i64 1)]) (hX : Blk w2 gX 28 #[.int .u8 (o.toNat : Int), .int .u8 (k.toNat : Int), .int .i64 n, .string s, .string nm, .string of, .int .i64 N, .slice A m c]) (hZ : Blk w2 gR 25 #[.int .u8 0, .int .i64 0, .string ⟨#[]⟩]) (hR : w.heap.size ≤ gR) (hB : Below w.heap.size w w2) (hl : Rv w2 w2.heap.size Al 1 l)
    (h : ∀ a' w' p, Fr 178 a' [(6, .pointer (some ⟨gR, 0, none⟩)), (7, .int .i64 (p.2 : Int))] → Fin w gR p w' → p = Ev.opn o l → Q .ret a' w') : (rv 5).wp Tryz.prog Q a w2 := by
  conv => arg 2; whnf
  obtain ⟨f, rfl, ⟨s3, s6, s8, s10, _⟩, hfr⟩ := hF.open178
  rw [hfr] at s3 s6 s8 s10
  rw [s3, s6, s8, s10]
  clear hF hfr s3 s6 s8 s10
  have H := hide h
  have HB := hide hB
  have HZ := hide hZ
  have HL := hide hl
  have x0 := hX.cell 0
  have x1 := hX.cell 1
  have x2 := hX.cell 2
  have x3 := hX.cell 3
  have x4 := hX.cell 4
  have x5 := hX.cell 5
  have x6 := hX.cell 6
  have x7 := hX.cell 7
  simp at x0 x1 x2 x3 x4 x5 x6 x7
  have hlen := hl.len
  have hzl := hZ.lt
  clear h hB hZ hl hX
  have t3 : ((o.toNat : Int) == 3) = false := by simp; omega
  have t4 : ((o.toNat : Int) == 4) = false := by simp; omega
  have t5 : ((o.toNat : Int) == 5) = false := by simp; omega
  have t6 : ((o.toNat : Int) == 6) = false := by simp; omega
  have t7 : decide ((7 : Int) ≤ (o.toNat : Int)) = true := decide_eq_true (by omega)
  have t12 : decide ((o.toNat : Int) ≤ 12) = false := decide_eq_false (by omega)
  have t13 : ((o.toNat : Int) == 13) = false := by simp; omega
  have t14 : ((o.toNat : Int) == 14) = false := by simp; omega
  have t15 : ((o.toNat : Int) == 15) = false := by simp; omega
  have t16 : ((o.toNat : Int) == 16) = true := by simp; omega
  obtain ⟨b, off, k1, n1, s1, rfl, hbl, hl0, c0, c1, c2, hok⟩ := HL.out.at (k := 0) (by omega)
  rw [Nat.zero_mul, Nat.add_zero] at c0 c1 c2
  obtain ⟨h1n, h1m⟩ := hok.2
  obtain rfl : l = [⟨k1, n1, s1⟩] := by
    match l, hlen, hl0 with
    | [v], _, h => injection h with h; rw [h]
  clear hl0 hlen hok
  simp only at h1n h1m
  have HO := hide ho
  clear ho
  obtain ⟨w3, hw3⟩ : ∃ x, x = w2.alloc (.cells #[.int .u8 1, .int .i64 0, .string ⟨#[]⟩] 25) := ⟨_, rfl⟩
  have HG : Hid (Blk w3 w2.heap.size 25 #[.int .u8 1, .int .i64 0, .string ⟨#[]⟩]) := by rw [hw3]; exact Blk.new _ _ _
  have hb3 : Below w2.heap.size w2 w3 := by rw [hw3]; exact al _ _
  replace HZ := hide (HZ.out.below hb3 HZ.out.lt)
  have hgl : gR < w2.heap.size := hzl
  replace HB := hide (HB.out.trans (hb3.mono HB.out.size))
  replace c0 := (hb3.cell (p := ⟨b, off, none⟩) hbl).trans c0
  replace c1 := (hb3.cell (p := ⟨b, off + 1, none⟩) hbl).trans c1
  replace c2 := (hb3.cell (p := ⟨b, off + 2, none⟩) hbl).trans c2
  clear hb3
  go_upto_region 24 with fail
  rw [← hw3]
  clear hw3 x0 x1 x2 x3 x4 x5 x6 x7
  by_cases hk : k1 = 0
  · have tk : ((k1.toNat : Int) == 0) = true := by rw [hk]; rfl
    have HP : Hid ((⟨1, 1, ⟨#[]⟩⟩, 0) = Ev.opn o [⟨k1, n1, s1⟩]) := by
      show _ = _
      rw [Ev.o_eq HO.out]
      show _ = Ev.null1 _
      unfold Ev.null1
      rw [if_pos hk]
      rfl
    clear hk
    have g0 := HG.out.cell 0
    have g1 := HG.out.cell 1
    have g2 := HG.out.cell 2
    simp at g0 g1 g2
    have y0 := HG.out.frozen 0
    have y1 := HG.out.frozen 1
    have y2 := HG.out.frozen 2
    go_upto_region 26 with fail
    obtain ⟨w4, hw4⟩ : ∃ x, x = w3.setCell ⟨w2.heap.size, 1, none⟩ (.int .i64 1) := ⟨_, rfl⟩
    have HG4 : Hid (Blk w4 w2.heap.size 25 #[.int .u8 1, .int .i64 1, .string ⟨#[]⟩]) := by rw [hw4]; exact HG.out.put 1 _
    replace HZ : Hid (Blk w4 gR 25 #[.int .u8 0, .int .i64 0, .string ⟨#[]⟩]) := by rw [hw4]; exact HZ.out.far (show gR ≠ w2.heap.size by omega) _
    replace HB : Hid (Below w.heap.size w w4) := by rw [hw4]; exact HB.out.setCell (show w.heap.size ≤ w2.heap.size by omega) _
    rw [← hw4]
    clear hw4 HG g0 g1 g2 y0 y1 y2
    have g0 := HG4.out.cell 0
    have g1 := HG4.out.cell 1
    have g2 := HG4.out.cell 2
    simp at g0 g1 g2
    have z0 := HZ.out.cell 0
    have z1 := HZ.out.cell 1
    have z2 := HZ.out.cell 2
    simp at z0 z1 z2
    have f0 := HZ.out.frozen 0
    have f1 := HZ.out.frozen 1
    have f2 := HZ.out.frozen 2
    have HF : Hid (Fin w gR (⟨1, 1, ⟨#[]⟩⟩, 0) (((w4.setCell ⟨gR, 0, none⟩ (.int .u8 1)).setCell ⟨gR, 1, none⟩ (.int .i64 1)).setCell ⟨gR, 2, none⟩ (.string ⟨#[]⟩))) := ⟨blk3 HZ.out _ _ _, below3 HB.out hR _ _ _⟩
    go_wp2_with fail
    refine H.out _ _ (⟨1, 1, ⟨#[]⟩⟩, 0) ?_ HF.out HP.out
    exact ⟨rfl, rfl, rfl, rfl, trivial⟩
  · have tk : ((k1.toNat : Int) == 0) = false := by
      have : k1.toNat ≠ 0 := fun e => hk (UInt8.toNat_inj.1 (by rw [e]; rfl))
      simp; omega
    have HP : Hid ((⟨1, 0, ⟨#[]⟩⟩, 0) = Ev.opn o [⟨k1, n1, s1⟩]) := by
      show _ = _
      rw [Ev.o_eq HO.out]
      show _ = Ev.null1 _
      unfold Ev.null1
      rw [if_neg hk]
      rfl
    clear hk
    have g0 := HG.out.cell 0
    have g1 := HG.out.cell 1
    have g2 := HG.out.cell 2
    simp at g0 g1 g2
    have z0 := HZ.out.cell 0
    have z1 := HZ.out.cell 1
    have z2 := HZ.out.cell 2
    simp at z0 z1 z2
    have f0 := HZ.out.frozen 0
    have f1 := HZ.out.frozen 1
    have f2 := HZ.out.frozen 2
    have HF : Hid (Fin w gR (⟨1, 0, ⟨#[]⟩⟩, 0) (((w3.setCell ⟨gR, 0, none⟩ (.int .u8 1)).setCell ⟨gR, 1, none⟩ (.int .i64 0)).setCell ⟨gR, 2, none⟩ (.string ⟨#[]⟩))) := ⟨blk3 HZ.out _ _ _, below3 HB.out hR _ _ _⟩
    go_wp2_with fail
    refine H.out _ _ (⟨1, 0, ⟨#[]⟩⟩, 0) ?_ HF.out HP.out
    exact ⟨rfl, rfl, rfl, rfl, trivial⟩
set_option linter.unusedVariables false in
set_option maxRecDepth 1000000 in
set_option maxHeartbeats 4000000 in
theorem rv_bad3 {Q : Exit → Act → World → Prop} {a : Act} (hq : q ≠ 0) (hb1 : o.toNat = 3 ∨ o.toNat = 15 ∨ o.toNat = 16 → q ≠ 1) (hb2 : 4 ≤ o.toNat ∧ o.toNat ≤ 14 → q ≠ 2) (ho : o.toNat = 3) (hF : Fr 178 a [(3, .pointer (some ⟨gX, 0, none⟩)), (6, .pointer (some ⟨gR, 0, none⟩)), (8, .slice Al q cl), (10, .int .i64 (q : Int))]) (hX : Blk w2 gX 28 #[.int .u8 (o.toNat : Int), .int .u8 (k.toNat : Int), .int .i64 n, .string s, .string nm, .string of, .int .i64 N, .slice A m c]) (hZ : Blk w2 gR 25 #[.int .u8 0, .int .i64 0, .string ⟨#[]⟩]) (hR : w.heap.size ≤ gR) (hB : Below w.heap.size w w2) (hl : Rv w2 w2.heap.size Al q l)
    (h : ∀ a' w' p, Fr 178 a' [(6, .pointer (some ⟨gR, 0, none⟩)), (7, .int .i64 (p.2 : Int))] → Fin w gR p w' → p = Ev.opn o l → Q .ret a' w') : (rv 5).wp Tryz.prog Q a w2 := by
  conv => arg 2; whnf
  obtain ⟨f, rfl, ⟨s3, s6, s8, s10, _⟩, hfr⟩ := hF.open178
  rw [hfr] at s3 s6 s8 s10
  rw [s3, s6, s8, s10]
  clear hF hfr s3 s6 s8 s10
  have H := hide h
  have HB := hide hB
  have HZ := hide hZ
  have HL := hide hl
  have x0 := hX.cell 0
  have x1 := hX.cell 1
  have x2 := hX.cell 2
  have x3 := hX.cell 3
  have x4 := hX.cell 4
  have x5 := hX.cell 5
  have x6 := hX.cell 6
  have x7 := hX.cell 7
  simp at x0 x1 x2 x3 x4 x5 x6 x7
  have hlen := hl.len
  clear h hB hZ hl hX
  have tn : ((q : Int) == 1) = false := by simp; omega
  have t3 : ((o.toNat : Int) == 3) = true := by simp; omega
  have t4 : ((o.toNat : Int) == 4) = false := by simp; omega
  have t5 : ((o.toNat : Int) == 5) = false := by simp; omega
  have t6 : ((o.toNat : Int) == 6) = false := by simp; omega
  have t13 : ((o.toNat : Int) == 13) = false := by simp; omega
  have t14 : ((o.toNat : Int) == 14) = false := by simp; omega
  have t15 : ((o.toNat : Int) == 15) = false := by simp; omega
  have t16 : ((o.toNat : Int) == 16) = false := by simp; omega
  have t7 : decide ((7 : Int) ≤ (o.toNat : Int)) = false := decide_eq_false (by omega)
  have HP : Hid ((Val.vz, 330) = Ev.opn o l) := by
    show _ = _
    refine (Ev.opn_bad ?_ ?_).symm
    · rw [hlen]
      unfold Ev.arity
      by_cases e3 : o = 3
      · subst e3; simp at hb1 ⊢; first | omega | exact hb1
      · by_cases e15 : o = 15
        · subst e15; simp at hb1 ⊢; first | omega | exact hb1
        · by_cases e16 : o = 16
          · subst e16; simp at hb1 ⊢; first | omega | exact hb1
          · rw [if_neg (by simp [e3, e15, e16])]
            split
            · rename_i h4; left; have := hb2 h4; omega
            · right; rfl
    · intro e; rw [e] at hlen; simp at hlen; omega
  clear hb1 hb2
  have z0 := HZ.out.cell 0
  have z1 := HZ.out.cell 1
  have z2 := HZ.out.cell 2
  simp at z0 z1 z2
  have f0 := HZ.out.frozen 0
  have f1 := HZ.out.frozen 1
  have f2 := HZ.out.frozen 2
  have HF : Hid (Fin w gR (Val.vz, 330) (((w2.setCell ⟨gR, 0, none⟩ (.int .u8 0)).setCell ⟨gR, 1, none⟩ (.int .i64 0)).setCell ⟨gR, 2, none⟩ (.string ⟨#[]⟩))) := ⟨blk3 HZ.out _ _ _, below3 HB.out hR _ _ _⟩
  go_wp2_with fail
  refine H.out _ _ (Val.vz, 330) ?_ HF.out HP.out
  exact ⟨rfl, rfl, rfl, rfl, trivial⟩
set_option linter.unusedVariables false in
set_option maxRecDepth 1000000 in
set_option maxHeartbeats 4000000 in
theorem rv_bad4 {Q : Exit → Act → World → Prop} {a : Act} (hq : q ≠ 0) (hb1 : o.toNat = 3 ∨ o.toNat = 15 ∨ o.toNat = 16 → q ≠ 1) (hb2 : 4 ≤ o.toNat ∧ o.toNat ≤ 14 → q ≠ 2) (ho : o.toNat = 4) (hF : Fr 178 a [(3, .pointer (some ⟨gX, 0, none⟩)), (6, .pointer (some ⟨gR, 0, none⟩)), (8, .slice Al q cl), (10, .int .i64 (q : Int))]) (hX : Blk w2 gX 28 #[.int .u8 (o.toNat : Int), .int .u8 (k.toNat : Int), .int .i64 n, .string s, .string nm, .string of, .int .i64 N, .slice A m c]) (hZ : Blk w2 gR 25 #[.int .u8 0, .int .i64 0, .string ⟨#[]⟩]) (hR : w.heap.size ≤ gR) (hB : Below w.heap.size w w2) (hl : Rv w2 w2.heap.size Al q l)
    (h : ∀ a' w' p, Fr 178 a' [(6, .pointer (some ⟨gR, 0, none⟩)), (7, .int .i64 (p.2 : Int))] → Fin w gR p w' → p = Ev.opn o l → Q .ret a' w') : (rv 5).wp Tryz.prog Q a w2 := by
  conv => arg 2; whnf
  obtain ⟨f, rfl, ⟨s3, s6, s8, s10, _⟩, hfr⟩ := hF.open178
  rw [hfr] at s3 s6 s8 s10
  rw [s3, s6, s8, s10]
  clear hF hfr s3 s6 s8 s10
  have H := hide h
  have HB := hide hB
  have HZ := hide hZ
  have HL := hide hl
  have x0 := hX.cell 0
  have x1 := hX.cell 1
  have x2 := hX.cell 2
  have x3 := hX.cell 3
  have x4 := hX.cell 4
  have x5 := hX.cell 5
  have x6 := hX.cell 6
  have x7 := hX.cell 7
  simp at x0 x1 x2 x3 x4 x5 x6 x7
  have hlen := hl.len
  clear h hB hZ hl hX
  have tn : ((q : Int) == 2) = false := by simp; omega
  have t3 : ((o.toNat : Int) == 3) = false := by simp; omega
  have t4 : ((o.toNat : Int) == 4) = true := by simp; omega
  have t5 : ((o.toNat : Int) == 5) = false := by simp; omega
  have t6 : ((o.toNat : Int) == 6) = false := by simp; omega
  have t13 : ((o.toNat : Int) == 13) = false := by simp; omega
  have t14 : ((o.toNat : Int) == 14) = false := by simp; omega
  have t15 : ((o.toNat : Int) == 15) = false := by simp; omega
  have t16 : ((o.toNat : Int) == 16) = false := by simp; omega
  have t7 : decide ((7 : Int) ≤ (o.toNat : Int)) = false := decide_eq_false (by omega)
  have HP : Hid ((Val.vz, 330) = Ev.opn o l) := by
    show _ = _
    refine (Ev.opn_bad ?_ ?_).symm
    · rw [hlen]
      unfold Ev.arity
      by_cases e3 : o = 3
      · subst e3; simp at hb1 ⊢; first | omega | exact hb1
      · by_cases e15 : o = 15
        · subst e15; simp at hb1 ⊢; first | omega | exact hb1
        · by_cases e16 : o = 16
          · subst e16; simp at hb1 ⊢; first | omega | exact hb1
          · rw [if_neg (by simp [e3, e15, e16])]
            split
            · rename_i h4; left; have := hb2 h4; omega
            · right; rfl
    · intro e; rw [e] at hlen; simp at hlen; omega
  clear hb1 hb2
  have z0 := HZ.out.cell 0
  have z1 := HZ.out.cell 1
  have z2 := HZ.out.cell 2
  simp at z0 z1 z2
  have f0 := HZ.out.frozen 0
  have f1 := HZ.out.frozen 1
  have f2 := HZ.out.frozen 2
  have HF : Hid (Fin w gR (Val.vz, 330) (((w2.setCell ⟨gR, 0, none⟩ (.int .u8 0)).setCell ⟨gR, 1, none⟩ (.int .i64 0)).setCell ⟨gR, 2, none⟩ (.string ⟨#[]⟩))) := ⟨blk3 HZ.out _ _ _, below3 HB.out hR _ _ _⟩
  go_wp2_with fail
  refine H.out _ _ (Val.vz, 330) ?_ HF.out HP.out
  exact ⟨rfl, rfl, rfl, rfl, trivial⟩
set_option linter.unusedVariables false in
set_option maxRecDepth 1000000 in
set_option maxHeartbeats 4000000 in
theorem rv_bad5 {Q : Exit → Act → World → Prop} {a : Act} (hq : q ≠ 0) (hb1 : o.toNat = 3 ∨ o.toNat = 15 ∨ o.toNat = 16 → q ≠ 1) (hb2 : 4 ≤ o.toNat ∧ o.toNat ≤ 14 → q ≠ 2) (ho : o.toNat = 5) (hF : Fr 178 a [(3, .pointer (some ⟨gX, 0, none⟩)), (6, .pointer (some ⟨gR, 0, none⟩)), (8, .slice Al q cl), (10, .int .i64 (q : Int))]) (hX : Blk w2 gX 28 #[.int .u8 (o.toNat : Int), .int .u8 (k.toNat : Int), .int .i64 n, .string s, .string nm, .string of, .int .i64 N, .slice A m c]) (hZ : Blk w2 gR 25 #[.int .u8 0, .int .i64 0, .string ⟨#[]⟩]) (hR : w.heap.size ≤ gR) (hB : Below w.heap.size w w2) (hl : Rv w2 w2.heap.size Al q l)
    (h : ∀ a' w' p, Fr 178 a' [(6, .pointer (some ⟨gR, 0, none⟩)), (7, .int .i64 (p.2 : Int))] → Fin w gR p w' → p = Ev.opn o l → Q .ret a' w') : (rv 5).wp Tryz.prog Q a w2 := by
  conv => arg 2; whnf
  obtain ⟨f, rfl, ⟨s3, s6, s8, s10, _⟩, hfr⟩ := hF.open178
  rw [hfr] at s3 s6 s8 s10
  rw [s3, s6, s8, s10]
  clear hF hfr s3 s6 s8 s10
  have H := hide h
  have HB := hide hB
  have HZ := hide hZ
  have HL := hide hl
  have x0 := hX.cell 0
  have x1 := hX.cell 1
  have x2 := hX.cell 2
  have x3 := hX.cell 3
  have x4 := hX.cell 4
  have x5 := hX.cell 5
  have x6 := hX.cell 6
  have x7 := hX.cell 7
  simp at x0 x1 x2 x3 x4 x5 x6 x7
  have hlen := hl.len
  clear h hB hZ hl hX
  have tn : ((q : Int) == 2) = false := by simp; omega
  have t3 : ((o.toNat : Int) == 3) = false := by simp; omega
  have t4 : ((o.toNat : Int) == 4) = false := by simp; omega
  have t5 : ((o.toNat : Int) == 5) = true := by simp; omega
  have t6 : ((o.toNat : Int) == 6) = false := by simp; omega
  have t13 : ((o.toNat : Int) == 13) = false := by simp; omega
  have t14 : ((o.toNat : Int) == 14) = false := by simp; omega
  have t15 : ((o.toNat : Int) == 15) = false := by simp; omega
  have t16 : ((o.toNat : Int) == 16) = false := by simp; omega
  have t7 : decide ((7 : Int) ≤ (o.toNat : Int)) = false := decide_eq_false (by omega)
  have HP : Hid ((Val.vz, 330) = Ev.opn o l) := by
    show _ = _
    refine (Ev.opn_bad ?_ ?_).symm
    · rw [hlen]
      unfold Ev.arity
      by_cases e3 : o = 3
      · subst e3; simp at hb1 ⊢; first | omega | exact hb1
      · by_cases e15 : o = 15
        · subst e15; simp at hb1 ⊢; first | omega | exact hb1
        · by_cases e16 : o = 16
          · subst e16; simp at hb1 ⊢; first | omega | exact hb1
          · rw [if_neg (by simp [e3, e15, e16])]
            split
            · rename_i h4; left; have := hb2 h4; omega
            · right; rfl
    · intro e; rw [e] at hlen; simp at hlen; omega
  clear hb1 hb2
  have z0 := HZ.out.cell 0
  have z1 := HZ.out.cell 1
  have z2 := HZ.out.cell 2
  simp at z0 z1 z2
  have f0 := HZ.out.frozen 0
  have f1 := HZ.out.frozen 1
  have f2 := HZ.out.frozen 2
  have HF : Hid (Fin w gR (Val.vz, 330) (((w2.setCell ⟨gR, 0, none⟩ (.int .u8 0)).setCell ⟨gR, 1, none⟩ (.int .i64 0)).setCell ⟨gR, 2, none⟩ (.string ⟨#[]⟩))) := ⟨blk3 HZ.out _ _ _, below3 HB.out hR _ _ _⟩
  go_wp2_with fail
  refine H.out _ _ (Val.vz, 330) ?_ HF.out HP.out
  exact ⟨rfl, rfl, rfl, rfl, trivial⟩
set_option linter.unusedVariables false in
set_option maxRecDepth 1000000 in
set_option maxHeartbeats 4000000 in
theorem rv_bad6 {Q : Exit → Act → World → Prop} {a : Act} (hq : q ≠ 0) (hb1 : o.toNat = 3 ∨ o.toNat = 15 ∨ o.toNat = 16 → q ≠ 1) (hb2 : 4 ≤ o.toNat ∧ o.toNat ≤ 14 → q ≠ 2) (ho : o.toNat = 6) (hF : Fr 178 a [(3, .pointer (some ⟨gX, 0, none⟩)), (6, .pointer (some ⟨gR, 0, none⟩)), (8, .slice Al q cl), (10, .int .i64 (q : Int))]) (hX : Blk w2 gX 28 #[.int .u8 (o.toNat : Int), .int .u8 (k.toNat : Int), .int .i64 n, .string s, .string nm, .string of, .int .i64 N, .slice A m c]) (hZ : Blk w2 gR 25 #[.int .u8 0, .int .i64 0, .string ⟨#[]⟩]) (hR : w.heap.size ≤ gR) (hB : Below w.heap.size w w2) (hl : Rv w2 w2.heap.size Al q l)
    (h : ∀ a' w' p, Fr 178 a' [(6, .pointer (some ⟨gR, 0, none⟩)), (7, .int .i64 (p.2 : Int))] → Fin w gR p w' → p = Ev.opn o l → Q .ret a' w') : (rv 5).wp Tryz.prog Q a w2 := by
  conv => arg 2; whnf
  obtain ⟨f, rfl, ⟨s3, s6, s8, s10, _⟩, hfr⟩ := hF.open178
  rw [hfr] at s3 s6 s8 s10
  rw [s3, s6, s8, s10]
  clear hF hfr s3 s6 s8 s10
  have H := hide h
  have HB := hide hB
  have HZ := hide hZ
  have HL := hide hl
  have x0 := hX.cell 0
  have x1 := hX.cell 1
  have x2 := hX.cell 2
  have x3 := hX.cell 3
  have x4 := hX.cell 4
  have x5 := hX.cell 5
  have x6 := hX.cell 6
  have x7 := hX.cell 7
  simp at x0 x1 x2 x3 x4 x5 x6 x7
  have hlen := hl.len
  clear h hB hZ hl hX
  have tn : ((q : Int) == 2) = false := by simp; omega
  have t3 : ((o.toNat : Int) == 3) = false := by simp; omega
  have t4 : ((o.toNat : Int) == 4) = false := by simp; omega
  have t5 : ((o.toNat : Int) == 5) = false := by simp; omega
  have t6 : ((o.toNat : Int) == 6) = true := by simp; omega
  have t13 : ((o.toNat : Int) == 13) = false := by simp; omega
  have t14 : ((o.toNat : Int) == 14) = false := by simp; omega
  have t15 : ((o.toNat : Int) == 15) = false := by simp; omega
  have t16 : ((o.toNat : Int) == 16) = false := by simp; omega
  have t7 : decide ((7 : Int) ≤ (o.toNat : Int)) = false := decide_eq_false (by omega)
  have HP : Hid ((Val.vz, 330) = Ev.opn o l) := by
    show _ = _
    refine (Ev.opn_bad ?_ ?_).symm
    · rw [hlen]
      unfold Ev.arity
      by_cases e3 : o = 3
      · subst e3; simp at hb1 ⊢; first | omega | exact hb1
      · by_cases e15 : o = 15
        · subst e15; simp at hb1 ⊢; first | omega | exact hb1
        · by_cases e16 : o = 16
          · subst e16; simp at hb1 ⊢; first | omega | exact hb1
          · rw [if_neg (by simp [e3, e15, e16])]
            split
            · rename_i h4; left; have := hb2 h4; omega
            · right; rfl
    · intro e; rw [e] at hlen; simp at hlen; omega
  clear hb1 hb2
  have z0 := HZ.out.cell 0
  have z1 := HZ.out.cell 1
  have z2 := HZ.out.cell 2
  simp at z0 z1 z2
  have f0 := HZ.out.frozen 0
  have f1 := HZ.out.frozen 1
  have f2 := HZ.out.frozen 2
  have HF : Hid (Fin w gR (Val.vz, 330) (((w2.setCell ⟨gR, 0, none⟩ (.int .u8 0)).setCell ⟨gR, 1, none⟩ (.int .i64 0)).setCell ⟨gR, 2, none⟩ (.string ⟨#[]⟩))) := ⟨blk3 HZ.out _ _ _, below3 HB.out hR _ _ _⟩
  go_wp2_with fail
  refine H.out _ _ (Val.vz, 330) ?_ HF.out HP.out
  exact ⟨rfl, rfl, rfl, rfl, trivial⟩
set_option linter.unusedVariables false in
set_option maxRecDepth 1000000 in
set_option maxHeartbeats 4000000 in
theorem rv_bad13 {Q : Exit → Act → World → Prop} {a : Act} (hq : q ≠ 0) (hb1 : o.toNat = 3 ∨ o.toNat = 15 ∨ o.toNat = 16 → q ≠ 1) (hb2 : 4 ≤ o.toNat ∧ o.toNat ≤ 14 → q ≠ 2) (ho : o.toNat = 13) (hF : Fr 178 a [(3, .pointer (some ⟨gX, 0, none⟩)), (6, .pointer (some ⟨gR, 0, none⟩)), (8, .slice Al q cl), (10, .int .i64 (q : Int))]) (hX : Blk w2 gX 28 #[.int .u8 (o.toNat : Int), .int .u8 (k.toNat : Int), .int .i64 n, .string s, .string nm, .string of, .int .i64 N, .slice A m c]) (hZ : Blk w2 gR 25 #[.int .u8 0, .int .i64 0, .string ⟨#[]⟩]) (hR : w.heap.size ≤ gR) (hB : Below w.heap.size w w2) (hl : Rv w2 w2.heap.size Al q l)
    (h : ∀ a' w' p, Fr 178 a' [(6, .pointer (some ⟨gR, 0, none⟩)), (7, .int .i64 (p.2 : Int))] → Fin w gR p w' → p = Ev.opn o l → Q .ret a' w') : (rv 5).wp Tryz.prog Q a w2 := by
  conv => arg 2; whnf
  obtain ⟨f, rfl, ⟨s3, s6, s8, s10, _⟩, hfr⟩ := hF.open178
  rw [hfr] at s3 s6 s8 s10
  rw [s3, s6, s8, s10]
  clear hF hfr s3 s6 s8 s10
  have H := hide h
  have HB := hide hB
  have HZ := hide hZ
  have HL := hide hl
  have x0 := hX.cell 0
  have x1 := hX.cell 1
  have x2 := hX.cell 2
  have x3 := hX.cell 3
  have x4 := hX.cell 4
  have x5 := hX.cell 5
  have x6 := hX.cell 6
  have x7 := hX.cell 7
  simp at x0 x1 x2 x3 x4 x5 x6 x7
  have hlen := hl.len
  clear h hB hZ hl hX
  have tn : ((q : Int) == 2) = false := by simp; omega
  have t3 : ((o.toNat : Int) == 3) = false := by simp; omega
  have t4 : ((o.toNat : Int) == 4) = false := by simp; omega
  have t5 : ((o.toNat : Int) == 5) = false := by simp; omega
  have t6 : ((o.toNat : Int) == 6) = false := by simp; omega
  have t13 : ((o.toNat : Int) == 13) = true := by simp; omega
  have t14 : ((o.toNat : Int) == 14) = false := by simp; omega
  have t15 : ((o.toNat : Int) == 15) = false := by simp; omega
  have t16 : ((o.toNat : Int) == 16) = false := by simp; omega
  have t7 : decide ((7 : Int) ≤ (o.toNat : Int)) = true := decide_eq_true (by omega)
  have t12 : decide ((o.toNat : Int) ≤ 12) = false := decide_eq_false (by omega)
  have HP : Hid ((Val.vz, 330) = Ev.opn o l) := by
    show _ = _
    refine (Ev.opn_bad ?_ ?_).symm
    · rw [hlen]
      unfold Ev.arity
      by_cases e3 : o = 3
      · subst e3; simp at hb1 ⊢; first | omega | exact hb1
      · by_cases e15 : o = 15
        · subst e15; simp at hb1 ⊢; first | omega | exact hb1
        · by_cases e16 : o = 16
          · subst e16; simp at hb1 ⊢; first | omega | exact hb1
          · rw [if_neg (by simp [e3, e15, e16])]
            split
            · rename_i h4; left; have := hb2 h4; omega
            · right; rfl
    · intro e; rw [e] at hlen; simp at hlen; omega
  clear hb1 hb2
  have z0 := HZ.out.cell 0
  have z1 := HZ.out.cell 1
  have z2 := HZ.out.cell 2
  simp at z0 z1 z2
  have f0 := HZ.out.frozen 0
  have f1 := HZ.out.frozen 1
  have f2 := HZ.out.frozen 2
  have HF : Hid (Fin w gR (Val.vz, 330) (((w2.setCell ⟨gR, 0, none⟩ (.int .u8 0)).setCell ⟨gR, 1, none⟩ (.int .i64 0)).setCell ⟨gR, 2, none⟩ (.string ⟨#[]⟩))) := ⟨blk3 HZ.out _ _ _, below3 HB.out hR _ _ _⟩
  go_wp2_with fail
  refine H.out _ _ (Val.vz, 330) ?_ HF.out HP.out
  exact ⟨rfl, rfl, rfl, rfl, trivial⟩
set_option linter.unusedVariables false in
set_option maxRecDepth 1000000 in
set_option maxHeartbeats 4000000 in
theorem rv_bad14 {Q : Exit → Act → World → Prop} {a : Act} (hq : q ≠ 0) (hb1 : o.toNat = 3 ∨ o.toNat = 15 ∨ o.toNat = 16 → q ≠ 1) (hb2 : 4 ≤ o.toNat ∧ o.toNat ≤ 14 → q ≠ 2) (ho : o.toNat = 14) (hF : Fr 178 a [(3, .pointer (some ⟨gX, 0, none⟩)), (6, .pointer (some ⟨gR, 0, none⟩)), (8, .slice Al q cl), (10, .int .i64 (q : Int))]) (hX : Blk w2 gX 28 #[.int .u8 (o.toNat : Int), .int .u8 (k.toNat : Int), .int .i64 n, .string s, .string nm, .string of, .int .i64 N, .slice A m c]) (hZ : Blk w2 gR 25 #[.int .u8 0, .int .i64 0, .string ⟨#[]⟩]) (hR : w.heap.size ≤ gR) (hB : Below w.heap.size w w2) (hl : Rv w2 w2.heap.size Al q l)
    (h : ∀ a' w' p, Fr 178 a' [(6, .pointer (some ⟨gR, 0, none⟩)), (7, .int .i64 (p.2 : Int))] → Fin w gR p w' → p = Ev.opn o l → Q .ret a' w') : (rv 5).wp Tryz.prog Q a w2 := by
  conv => arg 2; whnf
  obtain ⟨f, rfl, ⟨s3, s6, s8, s10, _⟩, hfr⟩ := hF.open178
  rw [hfr] at s3 s6 s8 s10
  rw [s3, s6, s8, s10]
  clear hF hfr s3 s6 s8 s10
  have H := hide h
  have HB := hide hB
  have HZ := hide hZ
  have HL := hide hl
  have x0 := hX.cell 0
  have x1 := hX.cell 1
  have x2 := hX.cell 2
  have x3 := hX.cell 3
  have x4 := hX.cell 4
  have x5 := hX.cell 5
  have x6 := hX.cell 6
  have x7 := hX.cell 7
  simp at x0 x1 x2 x3 x4 x5 x6 x7
  have hlen := hl.len
  clear h hB hZ hl hX
  have tn : ((q : Int) == 2) = false := by simp; omega
  have t3 : ((o.toNat : Int) == 3) = false := by simp; omega
  have t4 : ((o.toNat : Int) == 4) = false := by simp; omega
  have t5 : ((o.toNat : Int) == 5) = false := by simp; omega
  have t6 : ((o.toNat : Int) == 6) = false := by simp; omega
  have t13 : ((o.toNat : Int) == 13) = false := by simp; omega
  have t14 : ((o.toNat : Int) == 14) = true := by simp; omega
  have t15 : ((o.toNat : Int) == 15) = false := by simp; omega
  have t16 : ((o.toNat : Int) == 16) = false := by simp; omega
  have t7 : decide ((7 : Int) ≤ (o.toNat : Int)) = true := decide_eq_true (by omega)
  have t12 : decide ((o.toNat : Int) ≤ 12) = false := decide_eq_false (by omega)
  have HP : Hid ((Val.vz, 330) = Ev.opn o l) := by
    show _ = _
    refine (Ev.opn_bad ?_ ?_).symm
    · rw [hlen]
      unfold Ev.arity
      by_cases e3 : o = 3
      · subst e3; simp at hb1 ⊢; first | omega | exact hb1
      · by_cases e15 : o = 15
        · subst e15; simp at hb1 ⊢; first | omega | exact hb1
        · by_cases e16 : o = 16
          · subst e16; simp at hb1 ⊢; first | omega | exact hb1
          · rw [if_neg (by simp [e3, e15, e16])]
            split
            · rename_i h4; left; have := hb2 h4; omega
            · right; rfl
    · intro e; rw [e] at hlen; simp at hlen; omega
  clear hb1 hb2
  have z0 := HZ.out.cell 0
  have z1 := HZ.out.cell 1
  have z2 := HZ.out.cell 2
  simp at z0 z1 z2
  have f0 := HZ.out.frozen 0
  have f1 := HZ.out.frozen 1
  have f2 := HZ.out.frozen 2
  have HF : Hid (Fin w gR (Val.vz, 330) (((w2.setCell ⟨gR, 0, none⟩ (.int .u8 0)).setCell ⟨gR, 1, none⟩ (.int .i64 0)).setCell ⟨gR, 2, none⟩ (.string ⟨#[]⟩))) := ⟨blk3 HZ.out _ _ _, below3 HB.out hR _ _ _⟩
  go_wp2_with fail
  refine H.out _ _ (Val.vz, 330) ?_ HF.out HP.out
  exact ⟨rfl, rfl, rfl, rfl, trivial⟩
set_option linter.unusedVariables false in
set_option maxRecDepth 1000000 in
set_option maxHeartbeats 4000000 in
theorem rv_bad15 {Q : Exit → Act → World → Prop} {a : Act} (hq : q ≠ 0) (hb1 : o.toNat = 3 ∨ o.toNat = 15 ∨ o.toNat = 16 → q ≠ 1) (hb2 : 4 ≤ o.toNat ∧ o.toNat ≤ 14 → q ≠ 2) (ho : o.toNat = 15) (hF : Fr 178 a [(3, .pointer (some ⟨gX, 0, none⟩)), (6, .pointer (some ⟨gR, 0, none⟩)), (8, .slice Al q cl), (10, .int .i64 (q : Int))]) (hX : Blk w2 gX 28 #[.int .u8 (o.toNat : Int), .int .u8 (k.toNat : Int), .int .i64 n, .string s, .string nm, .string of, .int .i64 N, .slice A m c]) (hZ : Blk w2 gR 25 #[.int .u8 0, .int .i64 0, .string ⟨#[]⟩]) (hR : w.heap.size ≤ gR) (hB : Below w.heap.size w w2) (hl : Rv w2 w2.heap.size Al q l)
    (h : ∀ a' w' p, Fr 178 a' [(6, .pointer (some ⟨gR, 0, none⟩)), (7, .int .i64 (p.2 : Int))] → Fin w gR p w' → p = Ev.opn o l → Q .ret a' w') : (rv 5).wp Tryz.prog Q a w2 := by
  conv => arg 2; whnf
  obtain ⟨f, rfl, ⟨s3, s6, s8, s10, _⟩, hfr⟩ := hF.open178
  rw [hfr] at s3 s6 s8 s10
  rw [s3, s6, s8, s10]
  clear hF hfr s3 s6 s8 s10
  have H := hide h
  have HB := hide hB
  have HZ := hide hZ
  have HL := hide hl
  have x0 := hX.cell 0
  have x1 := hX.cell 1
  have x2 := hX.cell 2
  have x3 := hX.cell 3
  have x4 := hX.cell 4
  have x5 := hX.cell 5
  have x6 := hX.cell 6
  have x7 := hX.cell 7
  simp at x0 x1 x2 x3 x4 x5 x6 x7
  have hlen := hl.len
  clear h hB hZ hl hX
  have tn : ((q : Int) == 1) = false := by simp; omega
  have t3 : ((o.toNat : Int) == 3) = false := by simp; omega
  have t4 : ((o.toNat : Int) == 4) = false := by simp; omega
  have t5 : ((o.toNat : Int) == 5) = false := by simp; omega
  have t6 : ((o.toNat : Int) == 6) = false := by simp; omega
  have t13 : ((o.toNat : Int) == 13) = false := by simp; omega
  have t14 : ((o.toNat : Int) == 14) = false := by simp; omega
  have t15 : ((o.toNat : Int) == 15) = true := by simp; omega
  have t16 : ((o.toNat : Int) == 16) = false := by simp; omega
  have t7 : decide ((7 : Int) ≤ (o.toNat : Int)) = true := decide_eq_true (by omega)
  have t12 : decide ((o.toNat : Int) ≤ 12) = false := decide_eq_false (by omega)
  have HP : Hid ((Val.vz, 330) = Ev.opn o l) := by
    show _ = _
    refine (Ev.opn_bad ?_ ?_).symm
    · rw [hlen]
      unfold Ev.arity
      by_cases e3 : o = 3
      · subst e3; simp at hb1 ⊢; first | omega | exact hb1
      · by_cases e15 : o = 15
        · subst e15; simp at hb1 ⊢; first | omega | exact hb1
        · by_cases e16 : o = 16
          · subst e16; simp at hb1 ⊢; first | omega | exact hb1
          · rw [if_neg (by simp [e3, e15, e16])]
            split
            · rename_i h4; left; have := hb2 h4; omega
            · right; rfl
    · intro e; rw [e] at hlen; simp at hlen; omega
  clear hb1 hb2
  have z0 := HZ.out.cell 0
  have z1 := HZ.out.cell 1
  have z2 := HZ.out.cell 2
  simp at z0 z1 z2
  have f0 := HZ.out.frozen 0
  have f1 := HZ.out.frozen 1
  have f2 := HZ.out.frozen 2
  have HF : Hid (Fin w gR (Val.vz, 330) (((w2.setCell ⟨gR, 0, none⟩ (.int .u8 0)).setCell ⟨gR, 1, none⟩ (.int .i64 0)).setCell ⟨gR, 2, none⟩ (.string ⟨#[]⟩))) := ⟨blk3 HZ.out _ _ _, below3 HB.out hR _ _ _⟩
  go_wp2_with fail
  refine H.out _ _ (Val.vz, 330) ?_ HF.out HP.out
  exact ⟨rfl, rfl, rfl, rfl, trivial⟩
set_option linter.unusedVariables false in
set_option maxRecDepth 1000000 in
set_option maxHeartbeats 4000000 in
theorem rv_bad16 {Q : Exit → Act → World → Prop} {a : Act} (hq : q ≠ 0) (hb1 : o.toNat = 3 ∨ o.toNat = 15 ∨ o.toNat = 16 → q ≠ 1) (hb2 : 4 ≤ o.toNat ∧ o.toNat ≤ 14 → q ≠ 2) (ho : o.toNat = 16) (hF : Fr 178 a [(3, .pointer (some ⟨gX, 0, none⟩)), (6, .pointer (some ⟨gR, 0, none⟩)), (8, .slice Al q cl), (10, .int .i64 (q : Int))]) (hX : Blk w2 gX 28 #[.int .u8 (o.toNat : Int), .int .u8 (k.toNat : Int), .int .i64 n, .string s, .string nm, .string of, .int .i64 N, .slice A m c]) (hZ : Blk w2 gR 25 #[.int .u8 0, .int .i64 0, .string ⟨#[]⟩]) (hR : w.heap.size ≤ gR) (hB : Below w.heap.size w w2) (hl : Rv w2 w2.heap.size Al q l)
    (h : ∀ a' w' p, Fr 178 a' [(6, .pointer (some ⟨gR, 0, none⟩)), (7, .int .i64 (p.2 : Int))] → Fin w gR p w' → p = Ev.opn o l → Q .ret a' w') : (rv 5).wp Tryz.prog Q a w2 := by
  conv => arg 2; whnf
  obtain ⟨f, rfl, ⟨s3, s6, s8, s10, _⟩, hfr⟩ := hF.open178
  rw [hfr] at s3 s6 s8 s10
  rw [s3, s6, s8, s10]
  clear hF hfr s3 s6 s8 s10
  have H := hide h
  have HB := hide hB
  have HZ := hide hZ
  have HL := hide hl
  have x0 := hX.cell 0
  have x1 := hX.cell 1
  have x2 := hX.cell 2
  have x3 := hX.cell 3
  have x4 := hX.cell 4
  have x5 := hX.cell 5
  have x6 := hX.cell 6
  have x7 := hX.cell 7
  simp at x0 x1 x2 x3 x4 x5 x6 x7
  have hlen := hl.len
  clear h hB hZ hl hX
  have tn : ((q : Int) == 1) = false := by simp; omega
  have t3 : ((o.toNat : Int) == 3) = false := by simp; omega
  have t4 : ((o.toNat : Int) == 4) = false := by simp; omega
  have t5 : ((o.toNat : Int) == 5) = false := by simp; omega
  have t6 : ((o.toNat : Int) == 6) = false := by simp; omega
  have t13 : ((o.toNat : Int) == 13) = false := by simp; omega
  have t14 : ((o.toNat : Int) == 14) = false := by simp; omega
  have t15 : ((o.toNat : Int) == 15) = false := by simp; omega
  have t16 : ((o.toNat : Int) == 16) = true := by simp; omega
  have t7 : decide ((7 : Int) ≤ (o.toNat : Int)) = true := decide_eq_true (by omega)
  have t12 : decide ((o.toNat : Int) ≤ 12) = false := decide_eq_false (by omega)
  have HP : Hid ((Val.vz, 330) = Ev.opn o l) := by
    show _ = _
    refine (Ev.opn_bad ?_ ?_).symm
    · rw [hlen]
      unfold Ev.arity
      by_cases e3 : o = 3
      · subst e3; simp at hb1 ⊢; first | omega | exact hb1
      · by_cases e15 : o = 15
        · subst e15; simp at hb1 ⊢; first | omega | exact hb1
        · by_cases e16 : o = 16
          · subst e16; simp at hb1 ⊢; first | omega | exact hb1
          · rw [if_neg (by simp [e3, e15, e16])]
            split
            · rename_i h4; left; have := hb2 h4; omega
            · right; rfl
    · intro e; rw [e] at hlen; simp at hlen; omega
  clear hb1 hb2
  have z0 := HZ.out.cell 0
  have z1 := HZ.out.cell 1
  have z2 := HZ.out.cell 2
  simp at z0 z1 z2
  have f0 := HZ.out.frozen 0
  have f1 := HZ.out.frozen 1
  have f2 := HZ.out.frozen 2
  have HF : Hid (Fin w gR (Val.vz, 330) (((w2.setCell ⟨gR, 0, none⟩ (.int .u8 0)).setCell ⟨gR, 1, none⟩ (.int .i64 0)).setCell ⟨gR, 2, none⟩ (.string ⟨#[]⟩))) := ⟨blk3 HZ.out _ _ _, below3 HB.out hR _ _ _⟩
  go_wp2_with fail
  refine H.out _ _ (Val.vz, 330) ?_ HF.out HP.out
  exact ⟨rfl, rfl, rfl, rfl, trivial⟩
set_option linter.unusedVariables false in
set_option maxRecDepth 1000000 in
set_option maxHeartbeats 4000000 in
theorem rv_badC {Q : Exit → Act → World → Prop} {a : Act} (hq : q ≠ 0) (hb1 : o.toNat = 3 ∨ o.toNat = 15 ∨ o.toNat = 16 → q ≠ 1) (hb2 : 4 ≤ o.toNat ∧ o.toNat ≤ 14 → q ≠ 2) (h7 : 7 ≤ o.toNat) (h12 : o.toNat ≤ 12) (hF : Fr 178 a [(3, .pointer (some ⟨gX, 0, none⟩)), (6, .pointer (some ⟨gR, 0, none⟩)), (8, .slice Al q cl), (10, .int .i64 (q : Int))]) (hX : Blk w2 gX 28 #[.int .u8 (o.toNat : Int), .int .u8 (k.toNat : Int), .int .i64 n, .string s, .string nm, .string of, .int .i64 N, .slice A m c]) (hZ : Blk w2 gR 25 #[.int .u8 0, .int .i64 0, .string ⟨#[]⟩]) (hR : w.heap.size ≤ gR) (hB : Below w.heap.size w w2) (hl : Rv w2 w2.heap.size Al q l)
    (h : ∀ a' w' p, Fr 178 a' [(6, .pointer (some ⟨gR, 0, none⟩)), (7, .int .i64 (p.2 : Int))] → Fin w gR p w' → p = Ev.opn o l → Q .ret a' w') : (rv 5).wp Tryz.prog Q a w2 := by
  conv => arg 2; whnf
  obtain ⟨f, rfl, ⟨s3, s6, s8, s10, _⟩, hfr⟩ := hF.open178
  rw [hfr] at s3 s6 s8 s10
  rw [s3, s6, s8, s10]
  clear hF hfr s3 s6 s8 s10
  have H := hide h
  have HB := hide hB
  have HZ := hide hZ
  have HL := hide hl
  have x0 := hX.cell 0
  have x1 := hX.cell 1
  have x2 := hX.cell 2
  have x3 := hX.cell 3
  have x4 := hX.cell 4
  have x5 := hX.cell 5
  have x6 := hX.cell 6
  have x7 := hX.cell 7
  simp at x0 x1 x2 x3 x4 x5 x6 x7
  have hlen := hl.len
  clear h hB hZ hl hX
  have tn : ((q : Int) == 2) = false := by simp; omega
  have t3 : ((o.toNat : Int) == 3) = false := by simp; omega
  have t4 : ((o.toNat : Int) == 4) = false := by simp; omega
  have t5 : ((o.toNat : Int) == 5) = false := by simp; omega
  have t6 : ((o.toNat : Int) == 6) = false := by simp; omega
  have t13 : ((o.toNat : Int) == 13) = false := by simp; omega
  have t14 : ((o.toNat : Int) == 14) = false := by simp; omega
  have t15 : ((o.toNat : Int) == 15) = false := by simp; omega
  have t16 : ((o.toNat : Int) == 16) = false := by simp; omega
  have t7 : decide ((7 : Int) ≤ (o.toNat : Int)) = true := decide_eq_true (by omega)
  have t12 : decide ((o.toNat : Int) ≤ 12) = true := decide_eq_true (by omega)
  have HP : Hid ((Val.vz, 330) = Ev.opn o l) := by
    show _ = _
    refine (Ev.opn_bad ?_ ?_).symm
    · rw [hlen]
      unfold Ev.arity
      by_cases e3 : o = 3
      · subst e3; simp at hb1 ⊢; first | omega | exact hb1
      · by_cases e15 : o = 15
        · subst e15; simp at hb1 ⊢; first | omega | exact hb1
        · by_cases e16 : o = 16
          · subst e16; simp at hb1 ⊢; first | omega | exact hb1
          · rw [if_neg (by simp [e3, e15, e16])]
            split
            · rename_i h4; left; have := hb2 h4; omega
            · right; rfl
    · intro e; rw [e] at hlen; simp at hlen; omega
  clear hb1 hb2
  have z0 := HZ.out.cell 0
  have z1 := HZ.out.cell 1
  have z2 := HZ.out.cell 2
  simp at z0 z1 z2
  have f0 := HZ.out.frozen 0
  have f1 := HZ.out.frozen 1
  have f2 := HZ.out.frozen 2
  have HF : Hid (Fin w gR (Val.vz, 330) (((w2.setCell ⟨gR, 0, none⟩ (.int .u8 0)).setCell ⟨gR, 1, none⟩ (.int .i64 0)).setCell ⟨gR, 2, none⟩ (.string ⟨#[]⟩))) := ⟨blk3 HZ.out _ _ _, below3 HB.out hR _ _ _⟩
  go_wp2_with fail
  refine H.out _ _ (Val.vz, 330) ?_ HF.out HP.out
  exact ⟨rfl, rfl, rfl, rfl, trivial⟩
set_option linter.unusedVariables false in
set_option maxRecDepth 1000000 in
set_option maxHeartbeats 4000000 in
theorem rv_badH {Q : Exit → Act → World → Prop} {a : Act} (hq : q ≠ 0) (hb1 : o.toNat = 3 ∨ o.toNat = 15 ∨ o.toNat = 16 → q ≠ 1) (hb2 : 4 ≤ o.toNat ∧ o.toNat ≤ 14 → q ≠ 2) (ho : 16 < o.toNat) (hF : Fr 178 a [(3, .pointer (some ⟨gX, 0, none⟩)), (6, .pointer (some ⟨gR, 0, none⟩)), (8, .slice Al q cl), (10, .int .i64 (q : Int))]) (hX : Blk w2 gX 28 #[.int .u8 (o.toNat : Int), .int .u8 (k.toNat : Int), .int .i64 n, .string s, .string nm, .string of, .int .i64 N, .slice A m c]) (hZ : Blk w2 gR 25 #[.int .u8 0, .int .i64 0, .string ⟨#[]⟩]) (hR : w.heap.size ≤ gR) (hB : Below w.heap.size w w2) (hl : Rv w2 w2.heap.size Al q l)
    (h : ∀ a' w' p, Fr 178 a' [(6, .pointer (some ⟨gR, 0, none⟩)), (7, .int .i64 (p.2 : Int))] → Fin w gR p w' → p = Ev.opn o l → Q .ret a' w') : (rv 5).wp Tryz.prog Q a w2 := by
  conv => arg 2; whnf
  obtain ⟨f, rfl, ⟨s3, s6, s8, s10, _⟩, hfr⟩ := hF.open178
  rw [hfr] at s3 s6 s8 s10
  rw [s3, s6, s8, s10]
  clear hF hfr s3 s6 s8 s10
  have H := hide h
  have HB := hide hB
  have HZ := hide hZ
  have HL := hide hl
  have x0 := hX.cell 0
  have x1 := hX.cell 1
  have x2 := hX.cell 2
  have x3 := hX.cell 3
  have x4 := hX.cell 4
  have x5 := hX.cell 5
  have x6 := hX.cell 6
  have x7 := hX.cell 7
  simp at x0 x1 x2 x3 x4 x5 x6 x7
  have hlen := hl.len
  clear h hB hZ hl hX
  have t3 : ((o.toNat : Int) == 3) = false := by simp; omega
  have t4 : ((o.toNat : Int) == 4) = false := by simp; omega
  have t5 : ((o.toNat : Int) == 5) = false := by simp; omega
  have t6 : ((o.toNat : Int) == 6) = false := by simp; omega
  have t13 : ((o.toNat : Int) == 13) = false := by simp; omega
  have t14 : ((o.toNat : Int) == 14) = false := by simp; omega
  have t15 : ((o.toNat : Int) == 15) = false := by simp; omega
  have t16 : ((o.toNat : Int) == 16) = false := by simp; omega
  have t7 : decide ((7 : Int) ≤ (o.toNat : Int)) = true := decide_eq_true (by omega)
  have t12 : decide ((o.toNat : Int) ≤ 12) = false := decide_eq_false (by omega)
  have HP : Hid ((Val.vz, 330) = Ev.opn o l) := by
    show _ = _
    refine (Ev.opn_bad ?_ ?_).symm
    · rw [hlen]
      unfold Ev.arity
      by_cases e3 : o = 3
      · subst e3; simp at hb1 ⊢; first | omega | exact hb1
      · by_cases e15 : o = 15
        · subst e15; simp at hb1 ⊢; first | omega | exact hb1
        · by_cases e16 : o = 16
          · subst e16; simp at hb1 ⊢; first | omega | exact hb1
          · rw [if_neg (by simp [e3, e15, e16])]
            split
            · rename_i h4; left; have := hb2 h4; omega
            · right; rfl
    · intro e; rw [e] at hlen; simp at hlen; omega
  clear hb1 hb2
  have z0 := HZ.out.cell 0
  have z1 := HZ.out.cell 1
  have z2 := HZ.out.cell 2
  simp at z0 z1 z2
  have f0 := HZ.out.frozen 0
  have f1 := HZ.out.frozen 1
  have f2 := HZ.out.frozen 2
  have HF : Hid (Fin w gR (Val.vz, 330) (((w2.setCell ⟨gR, 0, none⟩ (.int .u8 0)).setCell ⟨gR, 1, none⟩ (.int .i64 0)).setCell ⟨gR, 2, none⟩ (.string ⟨#[]⟩))) := ⟨blk3 HZ.out _ _ _, below3 HB.out hR _ _ _⟩
  go_wp2_with fail
  refine H.out _ _ (Val.vz, 330) ?_ HF.out HP.out
  exact ⟨rfl, rfl, rfl, rfl, trivial⟩
set_option linter.unusedVariables false in
set_option maxRecDepth 1000000 in
set_option maxHeartbeats 4000000 in
theorem rv_badL {Q : Exit → Act → World → Prop} {a : Act} (hq : q ≠ 0) (hb1 : o.toNat = 3 ∨ o.toNat = 15 ∨ o.toNat = 16 → q ≠ 1) (hb2 : 4 ≤ o.toNat ∧ o.toNat ≤ 14 → q ≠ 2) (ho : o.toNat < 3) (hF : Fr 178 a [(3, .pointer (some ⟨gX, 0, none⟩)), (6, .pointer (some ⟨gR, 0, none⟩)), (8, .slice Al q cl), (10, .int .i64 (q : Int))]) (hX : Blk w2 gX 28 #[.int .u8 (o.toNat : Int), .int .u8 (k.toNat : Int), .int .i64 n, .string s, .string nm, .string of, .int .i64 N, .slice A m c]) (hZ : Blk w2 gR 25 #[.int .u8 0, .int .i64 0, .string ⟨#[]⟩]) (hR : w.heap.size ≤ gR) (hB : Below w.heap.size w w2) (hl : Rv w2 w2.heap.size Al q l)
    (h : ∀ a' w' p, Fr 178 a' [(6, .pointer (some ⟨gR, 0, none⟩)), (7, .int .i64 (p.2 : Int))] → Fin w gR p w' → p = Ev.opn o l → Q .ret a' w') : (rv 5).wp Tryz.prog Q a w2 := by
  conv => arg 2; whnf
  obtain ⟨f, rfl, ⟨s3, s6, s8, s10, _⟩, hfr⟩ := hF.open178
  rw [hfr] at s3 s6 s8 s10
  rw [s3, s6, s8, s10]
  clear hF hfr s3 s6 s8 s10
  have H := hide h
  have HB := hide hB
  have HZ := hide hZ
  have HL := hide hl
  have x0 := hX.cell 0
  have x1 := hX.cell 1
  have x2 := hX.cell 2
  have x3 := hX.cell 3
  have x4 := hX.cell 4
  have x5 := hX.cell 5
  have x6 := hX.cell 6
  have x7 := hX.cell 7
  simp at x0 x1 x2 x3 x4 x5 x6 x7
  have hlen := hl.len
  clear h hB hZ hl hX
  have t3 : ((o.toNat : Int) == 3) = false := by simp; omega
  have t4 : ((o.toNat : Int) == 4) = false := by simp; omega
  have t5 : ((o.toNat : Int) == 5) = false := by simp; omega
  have t6 : ((o.toNat : Int) == 6) = false := by simp; omega
  have t13 : ((o.toNat : Int) == 13) = false := by simp; omega
  have t14 : ((o.toNat : Int) == 14) = false := by simp; omega
  have t15 : ((o.toNat : Int) == 15) = false := by simp; omega
  have t16 : ((o.toNat : Int) == 16) = false := by simp; omega
  have t7 : decide ((7 : Int) ≤ (o.toNat : Int)) = false := decide_eq_false (by omega)
  have HP : Hid ((Val.vz, 330) = Ev.opn o l) := by
    show _ = _
    refine (Ev.opn_bad ?_ ?_).symm
    · rw [hlen]
      unfold Ev.arity
      by_cases e3 : o = 3
      · subst e3; simp at hb1 ⊢; first | omega | exact hb1
      · by_cases e15 : o = 15
        · subst e15; simp at hb1 ⊢; first | omega | exact hb1
        · by_cases e16 : o = 16
          · subst e16; simp at hb1 ⊢; first | omega | exact hb1
          · rw [if_neg (by simp [e3, e15, e16])]
            split
            · rename_i h4; left; have := hb2 h4; omega
            · right; rfl
    · intro e; rw [e] at hlen; simp at hlen; omega
  clear hb1 hb2
  have z0 := HZ.out.cell 0
  have z1 := HZ.out.cell 1
  have z2 := HZ.out.cell 2
  simp at z0 z1 z2
  have f0 := HZ.out.frozen 0
  have f1 := HZ.out.frozen 1
  have f2 := HZ.out.frozen 2
  have HF : Hid (Fin w gR (Val.vz, 330) (((w2.setCell ⟨gR, 0, none⟩ (.int .u8 0)).setCell ⟨gR, 1, none⟩ (.int .i64 0)).setCell ⟨gR, 2, none⟩ (.string ⟨#[]⟩))) := ⟨blk3 HZ.out _ _ _, below3 HB.out hR _ _ _⟩
  go_wp2_with fail
  refine H.out _ _ (Val.vz, 330) ?_ HF.out HP.out
  exact ⟨rfl, rfl, rfl, rfl, trivial⟩
end
end Go.Proofs.YticljmgcgjibpaaGreatDoor

/-
  The walks of chanceryref24.Value and Is: the value of an expression over a row. Conditions: what is read reads as a tree, and as a row.
-/
namespace Go.Proofs.YticljmgcgjibpaaGreatDoor
open Go.RowKit

section
variable {o k : UInt8} {n N : Int} {s nm of role : ByteArray} {A Ar Al : Option Addr} {m c nr cr cl gX gR : Nat} {r l : List Cell.Val} {ks : List Ev.Ex} {w w2 : World} {d : Nat}
set_option linter.unusedVariables false in
set_option maxRecDepth 1000000 in
set_option maxHeartbeats 4000000 in
theorem rva_0 {Q : Exit → Act → World → Prop} {a : Act}  (hF : Fr 178 a [(0, .agg #[.int .u8 (o.toNat : Int), .int .u8 (k.toNat : Int), .int .i64 n, .string s, .string nm, .string of, .int .i64 N, .slice A m c]), (1, .slice Ar nr cr), (2, .string role)]) 
    (h : ∀ a' w' gX gR, Fr 178 a' [(1, .slice Ar nr cr), (2, .string role), (3, .pointer (some ⟨gX, 0, none⟩)), (6, .pointer (some ⟨gR, 0, none⟩))] → Blk w' gX 28 #[.int .u8 (o.toNat : Int), .int .u8 (k.toNat : Int), .int .i64 n, .string s, .string nm, .string of, .int .i64 N, .slice A m c] → Blk w' gR 25 #[.int .u8 0, .int .i64 0, .string ⟨#[]⟩] → w.heap.size ≤ gR → Below w.heap.size w w' → Q .normal a' w') : (cL (rv 0)).wp Tryz.prog Q a w := by
  conv => arg 2; whnf
  obtain ⟨f, rfl, ⟨s0, s1, s2, _⟩, hfr⟩ := hF.open178
  rw [hfr] at s0 s1 s2
  rw [s0, s1, s2]
  clear hF hfr s0 s1 s2
  have H := hide h
  clear h
  obtain ⟨w1, hw1⟩ : ∃ x, x = (w.alloc (.cells #[.int .u8 (o.toNat : Int), .int .u8 (k.toNat : Int), .int .i64 n, .string s, .string nm, .string of, .int .i64 N, .slice A m c] 28)).alloc (.cells #[.int .u8 0, .int .i64 0, .string ⟨#[]⟩] 25) := ⟨_, rfl⟩
  have HX : Hid (Blk w1 w.heap.size 28 #[.int .u8 (o.toNat : Int), .int .u8 (k.toNat : Int), .int .i64 n, .string s, .string nm, .string of, .int .i64 N, .slice A m c]) := by rw [hw1]; exact (Blk.new w _ _).alloc _
  have HZ : Hid (Blk w1 (w.heap.size + 1) 25 #[.int .u8 0, .int .i64 0, .string ⟨#[]⟩]) := by
    rw [hw1]
    have := Blk.new (w.alloc (.cells #[.int .u8 (o.toNat : Int), .int .u8 (k.toNat : Int), .int .i64 n, .string s, .string nm, .string of, .int .i64 N, .slice A m c] 28)) 25 #[.int .u8 0, .int .i64 0, .string ⟨#[]⟩]
    exact hide (by simpa using this)
  have HB : Hid (Below w.heap.size w w1) := by
    rw [hw1]
    exact ((Below.refl _ _).alloc (Nat.le_refl _) _).alloc (by simp) _
  go_wp2_with fail
  rw [← hw1]
  refine H.out _ _ _ _ ?_ HX.out HZ.out (by omega) HB.out
  exact ⟨rfl, rfl, rfl, rfl, rfl, rfl, trivial⟩
set_option linter.unusedVariables false in
set_option maxRecDepth 1000000 in
set_option maxHeartbeats 4000000 in
theorem rva_1 {Q : Exit → Act → World → Prop} {a : Act}  (hF : Fr 178 a [(1, .slice Ar nr cr), (2, .string role), (3, .pointer (some ⟨gX, 0, none⟩)), (6, .pointer (some ⟨gR, 0, none⟩))]) (hX : Blk w2 gX 28 #[.int .u8 (o.toNat : Int), .int .u8 (k.toNat : Int), .int .i64 n, .string s, .string nm, .string of, .int .i64 N, .slice A m c]) (hZ : Blk w2 gR 25 #[.int .u8 0, .int .i64 0, .string ⟨#[]⟩]) (hR : w.heap.size ≤ gR) (hB : Below w.heap.size w w2) (hr : Rv w2 w2.heap.size Ar nr r) (hnr : nr ≤ 9223372036854775807) (hro : role.size ≤ 9223372036854775807)
    (h0 : m = 0 → ∀ a' w' p, Fr 178 a' [(6, .pointer (some ⟨gR, 0, none⟩)), (7, .int .i64 (p.2 : Int))] → Fin w gR p w' → p = Ev.leaf r role ⟨o, ⟨k, n, s⟩, nm, of, N⟩ → Q .ret a' w') (h1 : m ≠ 0 → ∀ a', Fr 178 a' [(1, .slice Ar nr cr), (2, .string role), (3, .pointer (some ⟨gX, 0, none⟩)), (6, .pointer (some ⟨gR, 0, none⟩))] → Q .normal a' w2) : (cL (rv 1)).wp Tryz.prog Q a w2 := by
  conv => arg 2; whnf
  obtain ⟨f, rfl, ⟨s1, s2, s3, s6, _⟩, hfr⟩ := hF.open178
  rw [hfr] at s1 s2 s3 s6
  rw [s1, s2, s3, s6]
  clear hF hfr s1 s2 s3 s6
  have H := hide h0
  have H1 := hide h1
  have HRv := hide hr
  clear h0 h1 hr
  have HB := hide hB
  have HZ := hide hZ
  have HX := hide hX
  have x0 := hX.cell 0
  have x1 := hX.cell 1
  have x2 := hX.cell 2
  have x3 := hX.cell 3
  have x4 := hX.cell 4
  have x5 := hX.cell 5
  have x6 := hX.cell 6
  have x7 := hX.cell 7
  simp at x0 x1 x2 x3 x4 x5 x6 x7
  clear hB hZ hX
  by_cases hm : m = 0
  · replace H := hide (H.out hm)
    subst hm
    go_wp2_with fail
    obtain ⟨⟨⟨pk, pn, ps⟩, pe⟩, hp⟩ : ∃ p, p = Ev.leaf r role ⟨o, ⟨k, n, s⟩, nm, of, N⟩ := ⟨_, rfl⟩
    have HP := hide hp
    clear hp
    have cc := rleaf_any ⟨o, ⟨k, n, s⟩, nm, of, N⟩ A 0 c Ar nr cr r role w2 HRv.out hnr hro
    rw [← HP.out, ansV_mk] at cc
    unfold exV at cc
    simp only at cc
    with_reducible refine cc.mono ?_
    clear cc
    rintro e w3 ⟨rfl, hb⟩
    replace HZ := hide (HZ.out.below hb HZ.out.lt)
    replace HB := hide (HB.out.trans (hb.mono HB.out.size))
    clear hb x0 x1 x2 x3 x4 x5 x6 x7
    have z0 := HZ.out.cell 0
    have z1 := HZ.out.cell 1
    have z2 := HZ.out.cell 2
    simp at z0 z1 z2
    have f0 := HZ.out.frozen 0
    have f1 := HZ.out.frozen 1
    have f2 := HZ.out.frozen 2
    have HF : Hid (Fin w gR (⟨pk, pn, ps⟩, pe) (((w3.setCell ⟨gR, 0, none⟩ (.int .u8 (pk.toNat : Int))).setCell ⟨gR, 1, none⟩ (.int .i64 pn)).setCell ⟨gR, 2, none⟩ (.string ps))) := ⟨blk3 HZ.out _ _ _, below3 HB.out hR _ _ _⟩
    go_wp2_with fail
    refine H.out _ _ (⟨pk, pn, ps⟩, pe) ?_ HF.out HP.out
    exact ⟨rfl, rfl, rfl, rfl, trivial⟩
  · have tm : ((m : Int) == 0) = false := by simp; omega
    replace H1 := hide (H1.out hm)
    clear hm
    go_wp2_with fail
    refine H1.out _ ?_
    exact ⟨rfl, rfl, rfl, rfl, rfl, rfl, trivial⟩
set_option linter.unusedVariables false in
set_option maxRecDepth 1000000 in
set_option maxHeartbeats 4000000 in
theorem rva_2 {Q : Exit → Act → World → Prop} {a : Act}  (hF : Fr 178 a [(1, .slice Ar nr cr), (2, .string role), (3, .pointer (some ⟨gX, 0, none⟩)), (6, .pointer (some ⟨gR, 0, none⟩))]) (hX : Blk w2 gX 28 #[.int .u8 (o.toNat : Int), .int .u8 (k.toNat : Int), .int .i64 n, .string s, .string nm, .string of, .int .i64 N, .slice A m c]) (hZ : Blk w2 gR 25 #[.int .u8 0, .int .i64 0, .string ⟨#[]⟩]) (hR : w.heap.size ≤ gR) (hB : Below w.heap.size w w2) (hr : Rv w2 w2.heap.size Ar nr r) (hnr : nr ≤ 9223372036854775807) (hro : role.size ≤ 9223372036854775807) (ih : RKc d) (hex : ExK w2 (· < w2.heap.size) d A m ks) (hok : HdOk ⟨o, ⟨k, n, s⟩, nm, of, N⟩)
    (h : ∀ a' w' Al q cl (e : Nat), Fr 178 a' [(3, .pointer (some ⟨gX, 0, none⟩)), (6, .pointer (some ⟨gR, 0, none⟩)), (8, .slice Al q cl), (9, .int .i64 (e : Int))] → Blk w' gX 28 #[.int .u8 (o.toNat : Int), .int .u8 (k.toNat : Int), .int .i64 n, .string s, .string nm, .string of, .int .i64 N, .slice A m c] → Blk w' gR 25 #[.int .u8 0, .int .i64 0, .string ⟨#[]⟩] → Below w.heap.size w w' → q = (Ev.vals r role ks).1.length → e = (Ev.vals r role ks).2 → Rv w' w'.heap.size Al q (Ev.vals r role ks).1 → Q .normal a' w') : (cL (rv 2)).wp Tryz.prog Q a w2 := by
  conv => arg 2; whnf
  obtain ⟨f, rfl, ⟨s1, s2, s3, s6, _⟩, hfr⟩ := hF.open178
  rw [hfr] at s1 s2 s3 s6
  rw [s1, s2, s3, s6]
  clear hF hfr s1 s2 s3 s6
  have H := hide h
  have HRv := hide hr
  have HIh := hide ih
  have HEx := hide hex
  have HOk := hide hok
  clear h hr ih hex hok
  have HB := hide hB
  have HZ := hide hZ
  have HX := hide hX
  have x0 := hX.cell 0
  have x1 := hX.cell 1
  have x2 := hX.cell 2
  have x3 := hX.cell 3
  have x4 := hX.cell 4
  have x5 := hX.cell 5
  have x6 := hX.cell 6
  have x7 := hX.cell 7
  simp at x0 x1 x2 x3 x4 x5 x6 x7
  clear hB hZ hX
  go_wp2_with fail
  have c0 : RKc d := HIh.out
  unfold RKc at c0
  have cc := c0 ⟨o, ⟨k, n, s⟩, nm, of, N⟩ ks A m c Ar nr cr r role w2 HEx.out HOk.out HRv.out hnr hro
  unfold exV at cc
  simp only at cc
  with_reducible refine cc.mono ?_
  clear cc c0
  rintro e w3 ⟨A3, c3, rfl, hrv, _, hb⟩
  replace HZ := hide (HZ.out.below hb HZ.out.lt)
  replace HX := hide (HX.out.below hb HX.out.lt)
  replace HB := hide (HB.out.trans (hb.mono HB.out.size))
  have HV := hide hrv
  clear hb hrv x0 x1 x2 x3 x4 x5 x6 x7
  obtain ⟨q, hq⟩ : ∃ q, q = (Ev.vals r role ks).1.length := ⟨_, rfl⟩
  obtain ⟨er, her⟩ : ∃ q, q = (Ev.vals r role ks).2 := ⟨_, rfl⟩
  rw [← hq] at HV
  rw [← hq, ← her]
  have HQ := hide hq
  have HE := hide her
  clear hq her
  go_wp2_with fail
  refine H.out _ _ A3 q c3 er ?_ HX.out HZ.out HB.out HQ.out HE.out HV.out
  exact ⟨rfl, rfl, rfl, rfl, rfl, rfl, trivial⟩
set_option linter.unusedVariables false in
set_option maxRecDepth 1000000 in
set_option maxHeartbeats 4000000 in
theorem rva_3 {Q : Exit → Act → World → Prop} {a : Act} {q e : Nat} (hF : Fr 178 a [(3, .pointer (some ⟨gX, 0, none⟩)), (6, .pointer (some ⟨gR, 0, none⟩)), (8, .slice Al q cl), (9, .int .i64 (e : Int))]) (hZ : Blk w2 gR 25 #[.int .u8 0, .int .i64 0, .string ⟨#[]⟩]) (hR : w.heap.size ≤ gR) (hB : Below w.heap.size w w2)
    (h0 : e ≠ 0 → ∀ a' w' p, Fr 178 a' [(6, .pointer (some ⟨gR, 0, none⟩)), (7, .int .i64 (p.2 : Int))] → Fin w gR p w' → p = (Val.vz, e) → Q .ret a' w') (h1 : e = 0 → ∀ a', Fr 178 a' [(3, .pointer (some ⟨gX, 0, none⟩)), (6, .pointer (some ⟨gR, 0, none⟩)), (8, .slice Al q cl)] → Q .normal a' w2) : (cL (rv 3)).wp Tryz.prog Q a w2 := by
  conv => arg 2; whnf
  obtain ⟨f, rfl, ⟨s3, s6, s8, s9, _⟩, hfr⟩ := hF.open178
  rw [hfr] at s3 s6 s8 s9
  rw [s3, s6, s8, s9]
  clear hF hfr s3 s6 s8 s9
  have H := hide h0
  have H1 := hide h1
  have HB := hide hB
  have HZ := hide hZ
  clear h0 h1 hB hZ
  have z0 := HZ.out.cell 0
  have z1 := HZ.out.cell 1
  have z2 := HZ.out.cell 2
  simp at z0 z1 z2
  have f0 := HZ.out.frozen 0
  have f1 := HZ.out.frozen 1
  have f2 := HZ.out.frozen 2
  by_cases he : e = 0
  · replace H1 := hide (H1.out he)
    subst he
    go_wp2_with fail
    refine H1.out _ ?_
    exact ⟨rfl, rfl, rfl, rfl, rfl, trivial⟩
  · have te : ((e : Int) != 0) = true := by simp; omega
    replace H := hide (H.out he)
    clear he
    have HF : Hid (Fin w gR (Val.vz, e) (((w2.setCell ⟨gR, 0, none⟩ (.int .u8 0)).setCell ⟨gR, 1, none⟩ (.int .i64 0)).setCell ⟨gR, 2, none⟩ (.string ⟨#[]⟩))) := ⟨blk3 HZ.out _ _ _, below3 HB.out hR _ _ _⟩
    go_wp2_with fail
    refine H.out _ _ (Val.vz, e) ?_ HF.out rfl
    exact ⟨rfl, rfl, rfl, rfl, trivial⟩
set_option linter.unusedVariables false in
set_option maxRecDepth 1000000 in
set_option maxHeartbeats 4000000 in
theorem rva_4 {Q : Exit → Act → World → Prop} {a : Act} {q : Nat} (hF : Fr 178 a [(3, .pointer (some ⟨gX, 0, none⟩)), (6, .pointer (some ⟨gR, 0, none⟩)), (8, .slice Al q cl)]) 
    (h : ∀ a', Fr 178 a' [(3, .pointer (some ⟨gX, 0, none⟩)), (6, .pointer (some ⟨gR, 0, none⟩)), (8, .slice Al q cl), (10, .int .i64 (q : Int))] → Q .normal a' w2) : (cL (rv 4)).wp Tryz.prog Q a w2 := by
  conv => arg 2; whnf
  obtain ⟨f, rfl, ⟨s3, s6, s8, _⟩, hfr⟩ := hF.open178
  rw [hfr] at s3 s6 s8
  rw [s3, s6, s8]
  clear hF hfr s3 s6 s8
  have H := hide h
  clear h
  go_wp2_with fail
  refine H.out _ ?_
  exact ⟨rfl, rfl, rfl, rfl, rfl, rfl, trivial⟩
theorem rve0 : rv 0 = .seq (cL (rv 0)) (rv 1) := by kernel_rfl
theorem rve1 : rv 1 = .seq (cL (rv 1)) (rv 2) := by kernel_rfl
theorem rve2 : rv 2 = .seq (cL (rv 2)) (rv 3) := by kernel_rfl
theorem rve3 : rv 3 = .seq (cL (rv 3)) (rv 4) := by kernel_rfl
theorem rve4 : rv 4 = .seq (cL (rv 4)) (rv 5) := by kernel_rfl
theorem rv_switch {Q : Exit → Act → World → Prop} {a : Act} {q : Nat} (hq0 : q ≠ 0) (hF : Fr 178 a [(3, .pointer (some ⟨gX, 0, none⟩)), (6, .pointer (some ⟨gR, 0, none⟩)), (8, .slice Al q cl), (10, .int .i64 (q : Int))]) (hX : Blk w2 gX 28 #[.int .u8 (o.toNat : Int), .int .u8 (k.toNat : Int), .int .i64 n, .string s, .string nm, .string of, .int .i64 N, .slice A m c]) (hZ : Blk w2 gR 25 #[.int .u8 0, .int .i64 0, .string ⟨#[]⟩]) (hR : w.heap.size ≤ gR) (hB : Below w.heap.size w w2) (hl : Rv w2 w2.heap.size Al q l)
    (h : ∀ a' w' p, Fr 178 a' [(6, .pointer (some ⟨gR, 0, none⟩)), (7, .int .i64 (p.2 : Int))] → Fin w gR p w' → p = Ev.opn o l → Q .ret a' w') : (rv 5).wp Tryz.prog Q a w2 := by
  by_cases hq : (o.toNat = 3 ∨ o.toNat = 15 ∨ o.toNat = 16) ∧ q = 1
  · obtain ⟨ho, rfl⟩ := hq
    rcases ho with ho | ho | ho
    · exact rv_neg ho hF hX hZ hR hB hl h
    · exact rv_not ho hF hX hZ hR hB hl h
    · exact rv_nul ho hF hX hZ hR hB hl h
  by_cases hq2 : (4 ≤ o.toNat ∧ o.toNat ≤ 14) ∧ q = 2
  · obtain ⟨ho, rfl⟩ := hq2
    have : o.toNat = 4 ∨ o.toNat = 5 ∨ o.toNat = 6 ∨ (7 ≤ o.toNat ∧ o.toNat ≤ 12) ∨ o.toNat = 13 ∨ o.toNat = 14 := by omega
    rcases this with ho | ho | ho | ho | ho | ho
    · exact rv_add ho hF hX hZ hR hB hl h
    · exact rv_sub ho hF hX hZ hR hB hl h
    · exact rv_mul ho hF hX hZ hR hB hl h
    · exact rv_cmp ho.1 ho.2 hF hX hZ hR hB hl h
    · exact rv_and ho hF hX hZ hR hB hl h
    · exact rv_or ho hF hX hZ hR hB hl h
  have hb1 : o.toNat = 3 ∨ o.toNat = 15 ∨ o.toNat = 16 → q ≠ 1 := fun h1 h2 => hq ⟨h1, h2⟩
  have hb2 : 4 ≤ o.toNat ∧ o.toNat ≤ 14 → q ≠ 2 := fun h1 h2 => hq2 ⟨h1, h2⟩
  have : o.toNat < 3 ∨ o.toNat = 3 ∨ o.toNat = 4 ∨ o.toNat = 5 ∨ o.toNat = 6 ∨ (7 ≤ o.toNat ∧ o.toNat ≤ 12) ∨ o.toNat = 13 ∨ o.toNat = 14 ∨ o.toNat = 15 ∨ o.toNat = 16 ∨ 16 < o.toNat := by omega
  rcases this with ho | ho | ho | ho | ho | ho | ho | ho | ho | ho | ho
  · exact rv_badL hq0 hb1 hb2 ho hF hX hZ hR hB hl h
  · exact rv_bad3 hq0 hb1 hb2 ho hF hX hZ hR hB hl h
  · exact rv_bad4 hq0 hb1 hb2 ho hF hX hZ hR hB hl h
  · exact rv_bad5 hq0 hb1 hb2 ho hF hX hZ hR hB hl h
  · exact rv_bad6 hq0 hb1 hb2 ho hF hX hZ hR hB hl h
  · exact rv_badC hq0 hb1 hb2 ho.1 ho.2 hF hX hZ hR hB hl h
  · exact rv_bad13 hq0 hb1 hb2 ho hF hX hZ hR hB hl h
  · exact rv_bad14 hq0 hb1 hb2 ho hF hX hZ hR hB hl h
  · exact rv_bad15 hq0 hb1 hb2 ho hF hX hZ hR hB hl h
  · exact rv_bad16 hq0 hb1 hb2 ho hF hX hZ hR hB hl h
  · exact rv_badH hq0 hb1 hb2 ho hF hX hZ hR hB hl h
end
set_option linter.unusedVariables false in
set_option maxRecDepth 1000000 in
set_option maxHeartbeats 4000000 in
theorem rvalue_of (d : Nat) (ih : RKc d) : RVc d := by
  intro h ks A m c Ar nr cr r role w hex hok hr hnr hro
  obtain ⟨o, ⟨k, n, s⟩, nm, of, N⟩ := h
  refine calls_of_wp Tryz.func8 (c := rv 0) (by kernel_rfl) ?_
  unfold exV
  simp only
  have ret : ∀ a' w' gR p, Fr 178 a' [(6, .pointer (some ⟨gR, 0, none⟩)), (7, .int .i64 (p.2 : Int))] → Fin w gR p w' → p = (Ev.Ex.mk ⟨o, ⟨k, n, s⟩, nm, of, N⟩ ks).val r role → bodyPost Tryz.prog Tryz.f8 (fun e w' => e = .returned (ansV ((Ev.Ex.mk ⟨o, ⟨k, n, s⟩, nm, of, N⟩ ks).val r role)) ∧ Below w.heap.size w w') .ret a' w' := by
    intro a' w' gR p hF hf hp
    obtain ⟨h1, h2, s6, s7, _⟩ := hF
    exact bodyPost_ret (results_val rfl hf.blk s6 s7) h2 ⟨by rw [← hp]; rfl, hf.bel⟩
  have hF : Fr 178 { tmps := #[.agg #[.int .u8 (o.toNat : Int), .int .u8 (k.toNat : Int), .int .i64 n, .string s, .string nm, .string of, .int .i64 N, .slice A m c], .slice Ar nr cr, .string role] ++ Array.replicate (Tryz.f8.ntmps - (#[.agg #[.int .u8 (o.toNat : Int), .int .u8 (k.toNat : Int), .int .i64 n, .string s, .string nm, .string of, .int .i64 N, .slice A m c], .slice Ar nr cr, .string role] : Array Value).size) undef, defers := [] } [(0, .agg #[.int .u8 (o.toNat : Int), .int .u8 (k.toNat : Int), .int .i64 n, .string s, .string nm, .string of, .int .i64 N, .slice A m c]), (1, .slice Ar nr cr), (2, .string role)] := by
    rw [Tryz.ntmps8]
    exact ⟨by simp, rfl, by simp, by simp, by simp, trivial⟩
  revert hF
  generalize ({ tmps := #[.agg #[.int .u8 (o.toNat : Int), .int .u8 (k.toNat : Int), .int .i64 n, .string s, .string nm, .string of, .int .i64 N, .slice A m c], .slice Ar nr cr, .string role] ++ Array.replicate (Tryz.f8.ntmps - (#[.agg #[.int .u8 (o.toNat : Int), .int .u8 (k.toNat : Int), .int .i64 n, .string s, .string nm, .string of, .int .i64 N, .slice A m c], .slice Ar nr cr, .string role] : Array Value).size) undef, defers := [] } : Act) = a
  intro hF
  rw [rve0]
  refine wp_seq (rva_0 hF ?_)
  clear hF
  intro a w1 gX gR hF hX hZ hR hB
  rw [rve1]
  refine wp_seq (rva_1 (r := r) hF hX hZ hR hB (hr.next hB) hnr hro (fun hm a' w' p hF' hf hp => ret a' w' gR p hF' hf ?_) ?_)
  · subst hm
    have : ks = [] := List.eq_nil_of_length_eq_zero hex.len.1.symm
    subst this
    rw [hp, Ev.val_leaf]
  clear hF
  intro hm a hF
  rw [rve2]
  refine wp_seq (rva_2 (r := r) (d := d) (ks := ks) hF hX hZ hR hB (hr.next hB) hnr hro ih (hex.next hB) hok ?_)
  clear hF hX hZ hB
  intro a w2 Al q cl e hF hX hZ hB hq he hrv
  rw [rve3]
  refine wp_seq (rva_3 hF hZ hR hB (fun he0 a' w' p hF' hf hp => ret a' w' gR p hF' hf ?_) ?_)
  · rw [hp]
    simp only [Ev.Ex.val, Ev.ansK]
    rw [if_pos (by rw [← he]; exact he0), ← he]
  clear hF
  intro he0 a hF
  rw [rve4]
  refine wp_seq (rva_4 (w2 := w2) hF ?_)
  clear hF
  intro a hF
  have hv : Ev.vals r role ks = ((Ev.vals r role ks).1, 0) := Prod.ext rfl (by rw [← he]; exact he0)
  have hq0 : q ≠ 0 := by
    have h1 := Ev.vals_len hv
    have h2 := hex.len.1
    omega
  refine rv_switch hq0 hF hX hZ hR hB hrv fun a' w' p hF' hf hp => ret a' w' gR p hF' hf ?_
  rw [hp, Ev.val_op hv (fun e => by rw [e] at hq; exact hq0 (by rw [hq]; rfl))]
theorem rvalue_all : ∀ d, RVc d := by
  intro d
  induction d with
  | zero => exact rvalue_of 0 (rkids_step 0 fun d' h => absurd h (by omega))
  | succ d ih =>
    refine rvalue_of (d + 1) (rkids_step (d + 1) fun d' h => ?_)
    obtain rfl : d = d' := by omega
    exact ih
set_option linter.unusedVariables false in
set_option maxRecDepth 1000000 in
set_option maxHeartbeats 4000000 in
theorem rIs_any (d : Nat) (h : Ev.Hd) (ks : List Ev.Ex) (A : Option Addr) (m c : Nat) (Ar : Option Addr) (nr cr : Nat) (r : List Cell.Val) (role : ByteArray) (w : World) (hex : ExK w (· < w.heap.size) d A m ks) (hok : HdOk h) (hr : Rv w w.heap.size Ar nr r) (hnr : nr ≤ 9223372036854775807) (hro : role.size ≤ 9223372036854775807) :
    Calls Tryz.prog 10 #[exV h A m c, .slice Ar nr cr, .string role] w fun e w' => e = .returned (truV (Ev.is ((Ev.Ex.mk h ks).val r role))) ∧ Below w.heap.size w w' := by
  have HEx := hide hex
  have HOk := hide hok
  have HR := hide hr
  obtain ⟨⟨⟨k', n', s'⟩, er⟩, hp⟩ : ∃ p, p = (Ev.Ex.mk h ks).val r role := ⟨_, rfl⟩
  have HP := hide hp
  rw [← hp]
  clear hex hok hr hp
  obtain ⟨o, ⟨k, n, s⟩, nm, of, N⟩ := h
  unfold exV
  simp only
  obtain ⟨w1, hw1⟩ : ∃ w1, w1 = w.alloc (.cells #[.int .u8 (o.toNat : Int), .int .u8 (k.toNat : Int), .int .i64 n, .string s, .string nm, .string of, .int .i64 N, .slice A m c] 28) := ⟨_, rfl⟩
  have HX : Hid (Blk w1 w.heap.size 28 #[.int .u8 (o.toNat : Int), .int .u8 (k.toNat : Int), .int .i64 n, .string s, .string nm, .string of, .int .i64 N, .slice A m c]) := by rw [hw1]; exact Blk.new _ _ _
  have HB : Hid (Below w.heap.size w w1) := by rw [hw1]; exact (Below.refl _ _).alloc (Nat.le_refl _) _
  have x0 := HX.out.cell 0
  have x1 := HX.out.cell 1
  have x2 := HX.out.cell 2
  have x3 := HX.out.cell 3
  have x4 := HX.out.cell 4
  have x5 := HX.out.cell 5
  have x6 := HX.out.cell 6
  have x7 := HX.out.cell 7
  simp at x0 x1 x2 x3 x4 x5 x6 x7
  go_enter Tryz.func10, Tryz.ntmps10
  go_upto_region 1 with fail
  rw [← hw1]
  clear hw1
  go_wp2_with fail
  have c0 : RVc d := rvalue_all d
  unfold RVc at c0
  have cc := c0 ⟨o, ⟨k, n, s⟩, nm, of, N⟩ ks A m c Ar nr cr r role w1 (HEx.out.next HB.out) HOk.out (HR.out.next HB.out) hnr hro
  rw [← HP.out, ansV_mk] at cc
  unfold exV at cc
  simp only at cc
  with_reducible refine cc.mono ?_
  clear cc c0
  rintro e w2 ⟨rfl, hb⟩
  replace HB := hide (HB.out.trans (hb.mono HB.out.size))
  clear hb x0 x1 x2 x3 x4 x5 x6 x7
  obtain ⟨w3, hw3⟩ : ∃ w3, w3 = w2.alloc (.cells #[.int .u8 (k'.toNat : Int), .int .i64 n', .string s'] 25) := ⟨_, rfl⟩
  have HK : Hid (Blk w3 w2.heap.size 25 #[.int .u8 (k'.toNat : Int), .int .i64 n', .string s']) := by rw [hw3]; exact Blk.new _ _ _
  have hb3 : Below w2.heap.size w2 w3 := by rw [hw3]; exact al _ _
  replace HB := hide (HB.out.trans (hb3.mono HB.out.size))
  clear hb3
  go_upto_region 2 with fail
  rw [← hw3]
  clear hw3
  have v0 := HK.out.cell 0
  have v1 := HK.out.cell 1
  have v2 := HK.out.cell 2
  simp at v0 v1 v2
  by_cases he : er = 0
  · subst he
    obtain ⟨⟨t, te⟩, ht⟩ : ∃ p, p = Lg.truth ⟨k', n', s'⟩ := ⟨_, rfl⟩
    have HT := hide ht
    clear ht
    go_wp2_with fail
    have cc := rTruth_any k' n' s' w3
    rw [← HT.out] at cc
    unfold truV at cc
    with_reducible refine cc.mono ?_
    clear cc
    simp only
    rintro e w4 ⟨rfl, hb⟩
    replace HB := hide (HB.out.trans (hb.mono HB.out.size))
    clear hb
    go_wp2_with fail
    go_ret2
    refine ⟨?_, HB.out⟩
    show _ = Ending.returned (truV (Ev.is (⟨k', n', s'⟩, 0)))
    unfold Ev.is
    rw [if_neg (by simp)]
    simp only
    rw [← HT.out]
    rfl
  · have te : ((er : Int) != 0) = true := by simp; omega
    have HE : Hid (Ev.is (⟨k', n', s'⟩, er) = (0, er)) := by
      show _ = _
      unfold Ev.is
      rw [if_pos he]
    clear he
    go_wp2_with fail
    go_ret2
    exact ⟨by rw [HE.out]; rfl, HB.out⟩
end Go.Proofs.YticljmgcgjibpaaGreatDoor
