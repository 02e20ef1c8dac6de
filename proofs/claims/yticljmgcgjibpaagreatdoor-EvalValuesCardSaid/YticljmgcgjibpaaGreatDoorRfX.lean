/-
  The walk of chanceryref24.Value, the rest: IS NULL, what is no operation, Value, Is. Conditions: what is read reads as a tree, and as a row.
-/
import Derived.Test.YticljmgcgjibpaaGreatDoorRfW
namespace Go.Proofs.YticljmgcgjibpaaGreatDoor
open Go.RowKit

section
variable {o k : UInt8} {n N : Int} {s nm of : ByteArray} {A Al : Option Addr} {m c cl gX gR q : Nat} {l : List Cell.Val} {w w2 : World}
set_option linter.unusedVariables false in
set_option maxRecDepth 1000000 in
set_option maxHeartbeats 4000000 in
theorem rv_nul {Q : Exit → Act → World → Prop} {a : Act} (ho : o.toNat = 16) (hF : Fr 178 a [(3, .pointer (some ⟨gX, 0, none⟩)), (6, .pointer (some ⟨gR, 0, none⟩)), (8, .slice Al 1 cl), (10, .int .i64 1)]) (hX : Blk w2 gX 28 #[.int .u8 (o.toNat : Int), .int .u8 (k.toNat : Int), .int .i64 n, .string s, .string nm, .string of, .int .i64 N, .slice A m c]) (hZ : Blk w2 gR 25 #[.int .u8 0, .int .i64 0, .string ⟨#[]⟩]) (hR : w.heap.size ≤ gR) (hB : Below w.heap.size w w2) (hl : Rv w2 w2.heap.size Al 1 l)
    (h : ∀ a' w' p, Fr 178 a' [(6, .pointer (some ⟨gR, 0, none⟩)), (7, .int .i64 (p.2 : Int))] → Fin w gR p w' → p = Ev.opn o l → Q .ret a' w') : (rv 5).wp Tryz.prog Q a w2 := by
  conv => arg 2; whnf
  obtain ⟨f, rfl, ⟨s3, s6, s8, s10, _⟩, hfr⟩ := hF.open178
  rw [hfr] at s3 s6 s8 s10
  rw [s3, s6, s8, s10]
  clear hF hfr s3 s6 s8 s10
  have H := hide h
  have HB := hide hB
  have HZ := hide hZ
  have HL := hide hl
  have x0 := hX.cell 0
  have x1 := hX.cell 1
  have x2 := hX.cell 2
  have x3 := hX.cell 3
  have x4 := hX.cell 4
  have x5 := hX.cell 5
  have x6 := hX.cell 6
  have x7 := hX.cell 7
  simp at x0 x1 x2 x3 x4 x5 x6 x7
  have hlen := hl.len
  have hzl := hZ.lt
  clear h hB hZ hl hX
  have t3 : ((o.toNat : Int) == 3) = false := by simp; omega
  have t4 : ((o.toNat : Int) == 4) = false := by simp; omega
  have t5 : ((o.toNat : Int) == 5) = false := by simp; omega
  have t6 : ((o.toNat : Int) == 6) = false := by simp; omega
  have t7 : decide ((7 : Int) ≤ (o.toNat : Int)) = true := decide_eq_true (by omega)
  have t12 : decide ((o.toNat : Int) ≤ 12) = false := decide_eq_false (by omega)
  have t13 : ((o.toNat : Int) == 13) = false := by simp; omega
  have t14 : ((o.toNat : Int) == 14) = false := by simp; omega
  have t15 : ((o.toNat : Int) == 15) = false := by simp; omega
  have t16 : ((o.toNat : Int) == 16) = true := by simp; omega
  obtain ⟨b, off, k1, n1, s1, rfl, hbl, hl0, c0, c1, c2, hok⟩ := HL.out.at (k := 0) (by omega)
  rw [Nat.zero_mul, Nat.add_zero] at c0 c1 c2
  obtain ⟨h1n, h1m⟩ := hok.2
  obtain rfl : l = [⟨k1, n1, s1⟩] := by
    match l, hlen, hl0 with
    | [v], _, h => injection h with h; rw [h]
  clear hl0 hlen hok
  simp only at h1n h1m
  have HO := hide ho
  clear ho
  obtain ⟨w3, hw3⟩ : ∃ x, x = w2.alloc (.cells #[.int .u8 1, .int .i64 0, .string ⟨#[]⟩] 25) := ⟨_, rfl⟩
  have HG : Hid (Blk w3 w2.heap.size 25 #[.int .u8 1, .int .i64 0, .string ⟨#[]⟩]) := by rw [hw3]; exact Blk.new _ _ _
  have hb3 : Below w2.heap.size w2 w3 := by rw [hw3]; exact al _ _
  replace HZ := hide (HZ.out.below hb3 HZ.out.lt)
  have hgl : gR < w2.heap.size := hzl
  replace HB := hide (HB.out.trans (hb3.mono HB.out.size))
  replace c0 := (hb3.cell (p := ⟨b, off, none⟩) hbl).trans c0
  replace c1 := (hb3.cell (p := ⟨b, off + 1, none⟩) hbl).trans c1
  replace c2 := (hb3.cell (p := ⟨b, off + 2, none⟩) hbl).trans c2
  clear hb3
  go_upto_region 24 with fail
  rw [← hw3]
  clear hw3 x0 x1 x2 x3 x4 x5 x6 x7
  by_cases hk : k1 = 0
  · have tk : ((k1.toNat : Int) == 0) = true := by rw [hk]; rfl
    have HP : Hid ((⟨1, 1, ⟨#[]⟩⟩, 0) = Ev.opn o [⟨k1, n1, s1⟩]) := by
      show _ = _
      rw [Ev.o_eq HO.out]
      show _ = Ev.null1 _
      unfold Ev.null1
      rw [if_pos hk]
      rfl
    clear hk
    have g0 := HG.out.cell 0
    have g1 := HG.out.cell 1
    have g2 := HG.out.cell 2
    simp at g0 g1 g2
    have y0 := HG.out.frozen 0
    have y1 := HG.out.frozen 1
    have y2 := HG.out.frozen 2
    go_upto_region 26 with fail
    obtain ⟨w4, hw4⟩ : ∃ x, x = w3.setCell ⟨w2.heap.size, 1, none⟩ (.int .i64 1) := ⟨_, rfl⟩
    have HG4 : Hid (Blk w4 w2.heap.size 25 #[.int .u8 1, .int .i64 1, .string ⟨#[]⟩]) := by rw [hw4]; exact HG.out.put 1 _
    replace HZ : Hid (Blk w4 gR 25 #[.int .u8 0, .int .i64 0, .string ⟨#[]⟩]) := by rw [hw4]; exact HZ.out.far (show gR ≠ w2.heap.size by omega) _
    replace HB : Hid (Below w.heap.size w w4) := by rw [hw4]; exact HB.out.setCell (show w.heap.size ≤ w2.heap.size by omega) _
    rw [← hw4]
    clear hw4 HG g0 g1 g2 y0 y1 y2
    have g0 := HG4.out.cell 0
    have g1 := HG4.out.cell 1
    have g2 := HG4.out.cell 2
    simp at g0 g1 g2
    have z0 := HZ.out.cell 0
    have z1 := HZ.out.cell 1
    have z2 := HZ.out.cell 2
    simp at z0 z1 z2
    have f0 := HZ.out.frozen 0
    have f1 := HZ.out.frozen 1
    have f2 := HZ.out.frozen 2
    have HF : Hid (Fin w gR (⟨1, 1, ⟨#[]⟩⟩, 0) (((w4.setCell ⟨gR, 0, none⟩ (.int .u8 1)).setCell ⟨gR, 1, none⟩ (.int .i64 1)).setCell ⟨gR, 2, none⟩ (.string ⟨#[]⟩))) := ⟨blk3 HZ.out _ _ _, below3 HB.out hR _ _ _⟩
    go_wp2_with fail
    refine H.out _ _ (⟨1, 1, ⟨#[]⟩⟩, 0) ?_ HF.out HP.out
    exact ⟨rfl, rfl, rfl, rfl, trivial⟩
  · have tk : ((k1.toNat : Int) == 0) = false := by
      have : k1.toNat ≠ 0 := fun e => hk (UInt8.toNat_inj.1 (by rw [e]; rfl))
      simp; omega
    have HP : Hid ((⟨1, 0, ⟨#[]⟩⟩, 0) = Ev.opn o [⟨k1, n1, s1⟩]) := by
      show _ = _
      rw [Ev.o_eq HO.out]
      show _ = Ev.null1 _
      unfold Ev.null1
      rw [if_neg hk]
      rfl
    clear hk
    have g0 := HG.out.cell 0
    have g1 := HG.out.cell 1
    have g2 := HG.out.cell 2
    simp at g0 g1 g2
    have z0 := HZ.out.cell 0
    have z1 := HZ.out.cell 1
    have z2 := HZ.out.cell 2
    simp at z0 z1 z2
    have f0 := HZ.out.frozen 0
    have f1 := HZ.out.frozen 1
    have f2 := HZ.out.frozen 2
    have HF : Hid (Fin w gR (⟨1, 0, ⟨#[]⟩⟩, 0) (((w3.setCell ⟨gR, 0, none⟩ (.int .u8 1)).setCell ⟨gR, 1, none⟩ (.int .i64 0)).setCell ⟨gR, 2, none⟩ (.string ⟨#[]⟩))) := ⟨blk3 HZ.out _ _ _, below3 HB.out hR _ _ _⟩
    go_wp2_with fail
    refine H.out _ _ (⟨1, 0, ⟨#[]⟩⟩, 0) ?_ HF.out HP.out
    exact ⟨rfl, rfl, rfl, rfl, trivial⟩
set_option linter.unusedVariables false in
set_option maxRecDepth 1000000 in
set_option maxHeartbeats 4000000 in
theorem rv_bad3 {Q : Exit → Act → World → Prop} {a : Act} (hq : q ≠ 0) (hb1 : o.toNat = 3 ∨ o.toNat = 15 ∨ o.toNat = 16 → q ≠ 1) (hb2 : 4 ≤ o.toNat ∧ o.toNat ≤ 14 → q ≠ 2) (ho : o.toNat = 3) (hF : Fr 178 a [(3, .pointer (some ⟨gX, 0, none⟩)), (6, .pointer (some ⟨gR, 0, none⟩)), (8, .slice Al q cl), (10, .int .i64 (q : Int))]) (hX : Blk w2 gX 28 #[.int .u8 (o.toNat : Int), .int .u8 (k.toNat : Int), .int .i64 n, .string s, .string nm, .string of, .int .i64 N, .slice A m c]) (hZ : Blk w2 gR 25 #[.int .u8 0, .int .i64 0, .string ⟨#[]⟩]) (hR : w.heap.size ≤ gR) (hB : Below w.heap.size w w2) (hl : Rv w2 w2.heap.size Al q l)
    (h : ∀ a' w' p, Fr 178 a' [(6, .pointer (some ⟨gR, 0, none⟩)), (7, .int .i64 (p.2 : Int))] → Fin w gR p w' → p = Ev.opn o l → Q .ret a' w') : (rv 5).wp Tryz.prog Q a w2 := by
  conv => arg 2; whnf
  obtain ⟨f, rfl, ⟨s3, s6, s8, s10, _⟩, hfr⟩ := hF.open178
  rw [hfr] at s3 s6 s8 s10
  rw [s3, s6, s8, s10]
  clear hF hfr s3 s6 s8 s10
  have H := hide h
  have HB := hide hB
  have HZ := hide hZ
  have HL := hide hl
  have x0 := hX.cell 0
  have x1 := hX.cell 1
  have x2 := hX.cell 2
  have x3 := hX.cell 3
  have x4 := hX.cell 4
  have x5 := hX.cell 5
  have x6 := hX.cell 6
  have x7 := hX.cell 7
  simp at x0 x1 x2 x3 x4 x5 x6 x7
  have hlen := hl.len
  clear h hB hZ hl hX
  have tn : ((q : Int) == 1) = false := by simp; omega
  have t3 : ((o.toNat : Int) == 3) = true := by simp; omega
  have t4 : ((o.toNat : Int) == 4) = false := by simp; omega
  have t5 : ((o.toNat : Int) == 5) = false := by simp; omega
  have t6 : ((o.toNat : Int) == 6) = false := by simp; omega
  have t13 : ((o.toNat : Int) == 13) = false := by simp; omega
  have t14 : ((o.toNat : Int) == 14) = false := by simp; omega
  have t15 : ((o.toNat : Int) == 15) = false := by simp; omega
  have t16 : ((o.toNat : Int) == 16) = false := by simp; omega
  have t7 : decide ((7 : Int) ≤ (o.toNat : Int)) = false := decide_eq_false (by omega)
  have HP : Hid ((Val.vz, 330) = Ev.opn o l) := by
    show _ = _
    refine (Ev.opn_bad ?_ ?_).symm
    · rw [hlen]
      unfold Ev.arity
      by_cases e3 : o = 3
      · subst e3; simp at hb1 ⊢; first | omega | exact hb1
      · by_cases e15 : o = 15
        · subst e15; simp at hb1 ⊢; first | omega | exact hb1
        · by_cases e16 : o = 16
          · subst e16; simp at hb1 ⊢; first | omega | exact hb1
          · rw [if_neg (by simp [e3, e15, e16])]
            split
            · rename_i h4; left; have := hb2 h4; omega
            · right; rfl
    · intro e; rw [e] at hlen; simp at hlen; omega
  clear hb1 hb2
  have z0 := HZ.out.cell 0
  have z1 := HZ.out.cell 1
  have z2 := HZ.out.cell 2
  simp at z0 z1 z2
  have f0 := HZ.out.frozen 0
  have f1 := HZ.out.frozen 1
  have f2 := HZ.out.frozen 2
  have HF : Hid (Fin w gR (Val.vz, 330) (((w2.setCell ⟨gR, 0, none⟩ (.int .u8 0)).setCell ⟨gR, 1, none⟩ (.int .i64 0)).setCell ⟨gR, 2, none⟩ (.string ⟨#[]⟩))) := ⟨blk3 HZ.out _ _ _, below3 HB.out hR _ _ _⟩
  go_wp2_with fail
  refine H.out _ _ (Val.vz, 330) ?_ HF.out HP.out
  exact ⟨rfl, rfl, rfl, rfl, trivial⟩
set_option linter.unusedVariables false in
set_option maxRecDepth 1000000 in
set_option maxHeartbeats 4000000 in
theorem rv_bad4 {Q : Exit → Act → World → Prop} {a : Act} (hq : q ≠ 0) (hb1 : o.toNat = 3 ∨ o.toNat = 15 ∨ o.toNat = 16 → q ≠ 1) (hb2 : 4 ≤ o.toNat ∧ o.toNat ≤ 14 → q ≠ 2) (ho : o.toNat = 4) (hF : Fr 178 a [(3, .pointer (some ⟨gX, 0, none⟩)), (6, .pointer (some ⟨gR, 0, none⟩)), (8, .slice Al q cl), (10, .int .i64 (q : Int))]) (hX : Blk w2 gX 28 #[.int .u8 (o.toNat : Int), .int .u8 (k.toNat : Int), .int .i64 n, .string s, .string nm, .string of, .int .i64 N, .slice A m c]) (hZ : Blk w2 gR 25 #[.int .u8 0, .int .i64 0, .string ⟨#[]⟩]) (hR : w.heap.size ≤ gR) (hB : Below w.heap.size w w2) (hl : Rv w2 w2.heap.size Al q l)
    (h : ∀ a' w' p, Fr 178 a' [(6, .pointer (some ⟨gR, 0, none⟩)), (7, .int .i64 (p.2 : Int))] → Fin w gR p w' → p = Ev.opn o l → Q .ret a' w') : (rv 5).wp Tryz.prog Q a w2 := by
  conv => arg 2; whnf
  obtain ⟨f, rfl, ⟨s3, s6, s8, s10, _⟩, hfr⟩ := hF.open178
  rw [hfr] at s3 s6 s8 s10
  rw [s3, s6, s8, s10]
  clear hF hfr s3 s6 s8 s10
  have H := hide h
  have HB := hide hB
  have HZ := hide hZ
  have HL := hide hl
  have x0 := hX.cell 0
  have x1 := hX.cell 1
  have x2 := hX.cell 2
  have x3 := hX.cell 3
  have x4 := hX.cell 4
  have x5 := hX.cell 5
  have x6 := hX.cell 6
  have x7 := hX.cell 7
  simp at x0 x1 x2 x3 x4 x5 x6 x7
  have hlen := hl.len
  clear h hB hZ hl hX
  have tn : ((q : Int) == 2) = false := by simp; omega
  have t3 : ((o.toNat : Int) == 3) = false := by simp; omega
  have t4 : ((o.toNat : Int) == 4) = true := by simp; omega
  have t5 : ((o.toNat : Int) == 5) = false := by simp; omega
  have t6 : ((o.toNat : Int) == 6) = false := by simp; omega
  have t13 : ((o.toNat : Int) == 13) = false := by simp; omega
  have t14 : ((o.toNat : Int) == 14) = false := by simp; omega
  have t15 : ((o.toNat : Int) == 15) = false := by simp; omega
  have t16 : ((o.toNat : Int) == 16) = false := by simp; omega
  have t7 : decide ((7 : Int) ≤ (o.toNat : Int)) = false := decide_eq_false (by omega)
  have HP : Hid ((Val.vz, 330) = Ev.opn o l) := by
    show _ = _
    refine (Ev.opn_bad ?_ ?_).symm
    · rw [hlen]
      unfold Ev.arity
      by_cases e3 : o = 3
      · subst e3; simp at hb1 ⊢; first | omega | exact hb1
      · by_cases e15 : o = 15
        · subst e15; simp at hb1 ⊢; first | omega | exact hb1
        · by_cases e16 : o = 16
          · subst e16; simp at hb1 ⊢; first | omega | exact hb1
          · rw [if_neg (by simp [e3, e15, e16])]
            split
            · rename_i h4; left; have := hb2 h4; omega
            · right; rfl
    · intro e; rw [e] at hlen; simp at hlen; omega
  clear hb1 hb2
  have z0 := HZ.out.cell 0
  have z1 := HZ.out.cell 1
  have z2 := HZ.out.cell 2
  simp at z0 z1 z2
  have f0 := HZ.out.frozen 0
  have f1 := HZ.out.frozen 1
  have f2 := HZ.out.frozen 2
  have HF : Hid (Fin w gR (Val.vz, 330) (((w2.setCell ⟨gR, 0, none⟩ (.int .u8 0)).setCell ⟨gR, 1, none⟩ (.int .i64 0)).setCell ⟨gR, 2, none⟩ (.string ⟨#[]⟩))) := ⟨blk3 HZ.out _ _ _, below3 HB.out hR _ _ _⟩
  go_wp2_with fail
  refine H.out _ _ (Val.vz, 330) ?_ HF.out HP.out
  exact ⟨rfl, rfl, rfl, rfl, trivial⟩
set_option linter.unusedVariables false in
set_option maxRecDepth 1000000 in
set_option maxHeartbeats 4000000 in
theorem rv_bad5 {Q : Exit → Act → World → Prop} {a : Act} (hq : q ≠ 0) (hb1 : o.toNat = 3 ∨ o.toNat = 15 ∨ o.toNat = 16 → q ≠ 1) (hb2 : 4 ≤ o.toNat ∧ o.toNat ≤ 14 → q ≠ 2) (ho : o.toNat = 5) (hF : Fr 178 a [(3, .pointer (some ⟨gX, 0, none⟩)), (6, .pointer (some ⟨gR, 0, none⟩)), (8, .slice Al q cl), (10, .int .i64 (q : Int))]) (hX : Blk w2 gX 28 #[.int .u8 (o.toNat : Int), .int .u8 (k.toNat : Int), .int .i64 n, .string s, .string nm, .string of, .int .i64 N, .slice A m c]) (hZ : Blk w2 gR 25 #[.int .u8 0, .int .i64 0, .string ⟨#[]⟩]) (hR : w.heap.size ≤ gR) (hB : Below w.heap.size w w2) (hl : Rv w2 w2.heap.size Al q l)
    (h : ∀ a' w' p, Fr 178 a' [(6, .pointer (some ⟨gR, 0, none⟩)), (7, .int .i64 (p.2 : Int))] → Fin w gR p w' → p = Ev.opn o l → Q .ret a' w') : (rv 5).wp Tryz.prog Q a w2 := by
  conv => arg 2; whnf
  obtain ⟨f, rfl, ⟨s3, s6, s8, s10, _⟩, hfr⟩ := hF.open178
  rw [hfr] at s3 s6 s8 s10
  rw [s3, s6, s8, s10]
  clear hF hfr s3 s6 s8 s10
  have H := hide h
  have HB := hide hB
  have HZ := hide hZ
  have HL := hide hl
  have x0 := hX.cell 0
  have x1 := hX.cell 1
  have x2 := hX.cell 2
  have x3 := hX.cell 3
  have x4 := hX.cell 4
  have x5 := hX.cell 5
  have x6 := hX.cell 6
  have x7 := hX.cell 7
  simp at x0 x1 x2 x3 x4 x5 x6 x7
  have hlen := hl.len
  clear h hB hZ hl hX
  have tn : ((q : Int) == 2) = false := by simp; omega
  have t3 : ((o.toNat : Int) == 3) = false := by simp; omega
  have t4 : ((o.toNat : Int) == 4) = false := by simp; omega
  have t5 : ((o.toNat : Int) == 5) = true := by simp; omega
  have t6 : ((o.toNat : Int) == 6) = false := by simp; omega
  have t13 : ((o.toNat : Int) == 13) = false := by simp; omega
  have t14 : ((o.toNat : Int) == 14) = false := by simp; omega
  have t15 : ((o.toNat : Int) == 15) = false := by simp; omega
  have t16 : ((o.toNat : Int) == 16) = false := by simp; omega
  have t7 : decide ((7 : Int) ≤ (o.toNat : Int)) = false := decide_eq_false (by omega)
  have HP : Hid ((Val.vz, 330) = Ev.opn o l) := by
    show _ = _
    refine (Ev.opn_bad ?_ ?_).symm
    · rw [hlen]
      unfold Ev.arity
      by_cases e3 : o = 3
      · subst e3; simp at hb1 ⊢; first | omega | exact hb1
      · by_cases e15 : o = 15
        · subst e15; simp at hb1 ⊢; first | omega | exact hb1
        · by_cases e16 : o = 16
          · subst e16; simp at hb1 ⊢; first | omega | exact hb1
          · rw [if_neg (by simp [e3, e15, e16])]
            split
            · rename_i h4; left; have := hb2 h4; omega
            · right; rfl
    · intro e; rw [e] at hlen; simp at hlen; omega
  clear hb1 hb2
  have z0 := HZ.out.cell 0
  have z1 := HZ.out.cell 1
  have z2 := HZ.out.cell 2
  simp at z0 z1 z2
  have f0 := HZ.out.frozen 0
  have f1 := HZ.out.frozen 1
  have f2 := HZ.out.frozen 2
  have HF : Hid (Fin w gR (Val.vz, 330) (((w2.setCell ⟨gR, 0, none⟩ (.int .u8 0)).setCell ⟨gR, 1, none⟩ (.int .i64 0)).setCell ⟨gR, 2, none⟩ (.string ⟨#[]⟩))) := ⟨blk3 HZ.out _ _ _, below3 HB.out hR _ _ _⟩
  go_wp2_with fail
  refine H.out _ _ (Val.vz, 330) ?_ HF.out HP.out
  exact ⟨rfl, rfl, rfl, rfl, trivial⟩
set_option linter.unusedVariables false in
set_option maxRecDepth 1000000 in
set_option maxHeartbeats 4000000 in
theorem rv_bad6 {Q : Exit → Act → World → Prop} {a : Act} (hq : q ≠ 0) (hb1 : o.toNat = 3 ∨ o.toNat = 15 ∨ o.toNat = 16 → q ≠ 1) (hb2 : 4 ≤ o.toNat ∧ o.toNat ≤ 14 → q ≠ 2) (ho : o.toNat = 6) (hF : Fr 178 a [(3, .pointer (some ⟨gX, 0, none⟩)), (6, .pointer (some ⟨gR, 0, none⟩)), (8, .slice Al q cl), (10, .int .i64 (q : Int))]) (hX : Blk w2 gX 28 #[.int .u8 (o.toNat : Int), .int .u8 (k.toNat : Int), .int .i64 n, .string s, .string nm, .string of, .int .i64 N, .slice A m c]) (hZ : Blk w2 gR 25 #[.int .u8 0, .int .i64 0, .string ⟨#[]⟩]) (hR : w.heap.size ≤ gR) (hB : Below w.heap.size w w2) (hl : Rv w2 w2.heap.size Al q l)
    (h : ∀ a' w' p, Fr 178 a' [(6, .pointer (some ⟨gR, 0, none⟩)), (7, .int .i64 (p.2 : Int))] → Fin w gR p w' → p = Ev.opn o l → Q .ret a' w') : (rv 5).wp Tryz.prog Q a w2 := by
  conv => arg 2; whnf
  obtain ⟨f, rfl, ⟨s3, s6, s8, s10, _⟩, hfr⟩ := hF.open178
  rw [hfr] at s3 s6 s8 s10
  rw [s3, s6, s8, s10]
  clear hF hfr s3 s6 s8 s10
  have H := hide h
  have HB := hide hB
  have HZ := hide hZ
  have HL := hide hl
  have x0 := hX.cell 0
  have x1 := hX.cell 1
  have x2 := hX.cell 2
  have x3 := hX.cell 3
  have x4 := hX.cell 4
  have x5 := hX.cell 5
  have x6 := hX.cell 6
  have x7 := hX.cell 7
  simp at x0 x1 x2 x3 x4 x5 x6 x7
  have hlen := hl.len
  clear h hB hZ hl hX
  have tn : ((q : Int) == 2) = false := by simp; omega
  have t3 : ((o.toNat : Int) == 3) = false := by simp; omega
  have t4 : ((o.toNat : Int) == 4) = false := by simp; omega
  have t5 : ((o.toNat : Int) == 5) = false := by simp; omega
  have t6 : ((o.toNat : Int) == 6) = true := by simp; omega
  have t13 : ((o.toNat : Int) == 13) = false := by simp; omega
  have t14 : ((o.toNat : Int) == 14) = false := by simp; omega
  have t15 : ((o.toNat : Int) == 15) = false := by simp; omega
  have t16 : ((o.toNat : Int) == 16) = false := by simp; omega
  have t7 : decide ((7 : Int) ≤ (o.toNat : Int)) = false := decide_eq_false (by omega)
  have HP : Hid ((Val.vz, 330) = Ev.opn o l) := by
    show _ = _
    refine (Ev.opn_bad ?_ ?_).symm
    · rw [hlen]
      unfold Ev.arity
      by_cases e3 : o = 3
      · subst e3; simp at hb1 ⊢; first | omega | exact hb1
      · by_cases e15 : o = 15
        · subst e15; simp at hb1 ⊢; first | omega | exact hb1
        · by_cases e16 : o = 16
          · subst e16; simp at hb1 ⊢; first | omega | exact hb1
          · rw [if_neg (by simp [e3, e15, e16])]
            split
            · rename_i h4; left; have := hb2 h4; omega
            · right; rfl
    · intro e; rw [e] at hlen; simp at hlen; omega
  clear hb1 hb2
  have z0 := HZ.out.cell 0
  have z1 := HZ.out.cell 1
  have z2 := HZ.out.cell 2
  simp at z0 z1 z2
  have f0 := HZ.out.frozen 0
  have f1 := HZ.out.frozen 1
  have f2 := HZ.out.frozen 2
  have HF : Hid (Fin w gR (Val.vz, 330) (((w2.setCell ⟨gR, 0, none⟩ (.int .u8 0)).setCell ⟨gR, 1, none⟩ (.int .i64 0)).setCell ⟨gR, 2, none⟩ (.string ⟨#[]⟩))) := ⟨blk3 HZ.out _ _ _, below3 HB.out hR _ _ _⟩
  go_wp2_with fail
  refine H.out _ _ (Val.vz, 330) ?_ HF.out HP.out
  exact ⟨rfl, rfl, rfl, rfl, trivial⟩
set_option linter.unusedVariables false in
set_option maxRecDepth 1000000 in
set_option maxHeartbeats 4000000 in
theorem rv_bad13 {Q : Exit → Act → World → Prop} {a : Act} (hq : q ≠ 0) (hb1 : o.toNat = 3 ∨ o.toNat = 15 ∨ o.toNat = 16 → q ≠ 1) (hb2 : 4 ≤ o.toNat ∧ o.toNat ≤ 14 → q ≠ 2) (ho : o.toNat = 13) (hF : Fr 178 a [(3, .pointer (some ⟨gX, 0, none⟩)), (6, .pointer (some ⟨gR, 0, none⟩)), (8, .slice Al q cl), (10, .int .i64 (q : Int))]) (hX : Blk w2 gX 28 #[.int .u8 (o.toNat : Int), .int .u8 (k.toNat : Int), .int .i64 n, .string s, .string nm, .string of, .int .i64 N, .slice A m c]) (hZ : Blk w2 gR 25 #[.int .u8 0, .int .i64 0, .string ⟨#[]⟩]) (hR : w.heap.size ≤ gR) (hB : Below w.heap.size w w2) (hl : Rv w2 w2.heap.size Al q l)
    (h : ∀ a' w' p, Fr 178 a' [(6, .pointer (some ⟨gR, 0, none⟩)), (7, .int .i64 (p.2 : Int))] → Fin w gR p w' → p = Ev.opn o l → Q .ret a' w') : (rv 5).wp Tryz.prog Q a w2 := by
  conv => arg 2; whnf
  obtain ⟨f, rfl, ⟨s3, s6, s8, s10, _⟩, hfr⟩ := hF.open178
  rw [hfr] at s3 s6 s8 s10
  rw [s3, s6, s8, s10]
  clear hF hfr s3 s6 s8 s10
  have H := hide h
  have HB := hide hB
  have HZ := hide hZ
  have HL := hide hl
  have x0 := hX.cell 0
  have x1 := hX.cell 1
  have x2 := hX.cell 2
  have x3 := hX.cell 3
  have x4 := hX.cell 4
  have x5 := hX.cell 5
  have x6 := hX.cell 6
  have x7 := hX.cell 7
  simp at x0 x1 x2 x3 x4 x5 x6 x7
  have hlen := hl.len
  clear h hB hZ hl hX
  have tn : ((q : Int) == 2) = false := by simp; omega
  have t3 : ((o.toNat : Int) == 3) = false := by simp; omega
  have t4 : ((o.toNat : Int) == 4) = false := by simp; omega
  have t5 : ((o.toNat : Int) == 5) = false := by simp; omega
  have t6 : ((o.toNat : Int) == 6) = false := by simp; omega
  have t13 : ((o.toNat : Int) == 13) = true := by simp; omega
  have t14 : ((o.toNat : Int) == 14) = false := by simp; omega
  have t15 : ((o.toNat : Int) == 15) = false := by simp; omega
  have t16 : ((o.toNat : Int) == 16) = false := by simp; omega
  have t7 : decide ((7 : Int) ≤ (o.toNat : Int)) = true := decide_eq_true (by omega)
  have t12 : decide ((o.toNat : Int) ≤ 12) = false := decide_eq_false (by omega)
  have HP : Hid ((Val.vz, 330) = Ev.opn o l) := by
    show _ = _
    refine (Ev.opn_bad ?_ ?_).symm
    · rw [hlen]
      unfold Ev.arity
      by_cases e3 : o = 3
      · subst e3; simp at hb1 ⊢; first | omega | exact hb1
      · by_cases e15 : o = 15
        · subst e15; simp at hb1 ⊢; first | omega | exact hb1
        · by_cases e16 : o = 16
          · subst e16; simp at hb1 ⊢; first | omega | exact hb1
          · rw [if_neg (by simp [e3, e15, e16])]
            split
            · rename_i h4; left; have := hb2 h4; omega
            · right; rfl
    · intro e; rw [e] at hlen; simp at hlen; omega
  clear hb1 hb2
  have z0 := HZ.out.cell 0
  have z1 := HZ.out.cell 1
  have z2 := HZ.out.cell 2
  simp at z0 z1 z2
  have f0 := HZ.out.frozen 0
  have f1 := HZ.out.frozen 1
  have f2 := HZ.out.frozen 2
  have HF : Hid (Fin w gR (Val.vz, 330) (((w2.setCell ⟨gR, 0, none⟩ (.int .u8 0)).setCell ⟨gR, 1, none⟩ (.int .i64 0)).setCell ⟨gR, 2, none⟩ (.string ⟨#[]⟩))) := ⟨blk3 HZ.out _ _ _, below3 HB.out hR _ _ _⟩
  go_wp2_with fail
  refine H.out _ _ (Val.vz, 330) ?_ HF.out HP.out
  exact ⟨rfl, rfl, rfl, rfl, trivial⟩
set_option linter.unusedVariables false in
set_option maxRecDepth 1000000 in
set_option maxHeartbeats 4000000 in
theorem rv_bad14 {Q : Exit → Act → World → Prop} {a : Act} (hq : q ≠ 0) (hb1 : o.toNat = 3 ∨ o.toNat = 15 ∨ o.toNat = 16 → q ≠ 1) (hb2 : 4 ≤ o.toNat ∧ o.toNat ≤ 14 → q ≠ 2) (ho : o.toNat = 14) (hF : Fr 178 a [(3, .pointer (some ⟨gX, 0, none⟩)), (6, .pointer (some ⟨gR, 0, none⟩)), (8, .slice Al q cl), (10, .int .i64 (q : Int))]) (hX : Blk w2 gX 28 #[.int .u8 (o.toNat : Int), .int .u8 (k.toNat : Int), .int .i64 n, .string s, .string nm, .string of, .int .i64 N, .slice A m c]) (hZ : Blk w2 gR 25 #[.int .u8 0, .int .i64 0, .string ⟨#[]⟩]) (hR : w.heap.size ≤ gR) (hB : Below w.heap.size w w2) (hl : Rv w2 w2.heap.size Al q l)
    (h : ∀ a' w' p, Fr 178 a' [(6, .pointer (some ⟨gR, 0, none⟩)), (7, .int .i64 (p.2 : Int))] → Fin w gR p w' → p = Ev.opn o l → Q .ret a' w') : (rv 5).wp Tryz.prog Q a w2 := by
  conv => arg 2; whnf
  obtain ⟨f, rfl, ⟨s3, s6, s8, s10, _⟩, hfr⟩ := hF.open178
  rw [hfr] at s3 s6 s8 s10
  rw [s3, s6, s8, s10]
  clear hF hfr s3 s6 s8 s10
  have H := hide h
  have HB := hide hB
  have HZ := hide hZ
  have HL := hide hl
  have x0 := hX.cell 0
  have x1 := hX.cell 1
  have x2 := hX.cell 2
  have x3 := hX.cell 3
  have x4 := hX.cell 4
  have x5 := hX.cell 5
  have x6 := hX.cell 6
  have x7 := hX.cell 7
  simp at x0 x1 x2 x3 x4 x5 x6 x7
  have hlen := hl.len
  clear h hB hZ hl hX
  have tn : ((q : Int) == 2) = false := by simp; omega
  have t3 : ((o.toNat : Int) == 3) = false := by simp; omega
  have t4 : ((o.toNat : Int) == 4) = false := by simp; omega
  have t5 : ((o.toNat : Int) == 5) = false := by simp; omega
  have t6 : ((o.toNat : Int) == 6) = false := by simp; omega
  have t13 : ((o.toNat : Int) == 13) = false := by simp; omega
  have t14 : ((o.toNat : Int) == 14) = true := by simp; omega
  have t15 : ((o.toNat : Int) == 15) = false := by simp; omega
  have t16 : ((o.toNat : Int) == 16) = false := by simp; omega
  have t7 : decide ((7 : Int) ≤ (o.toNat : Int)) = true := decide_eq_true (by omega)
  have t12 : decide ((o.toNat : Int) ≤ 12) = false := decide_eq_false (by omega)
  have HP : Hid ((Val.vz, 330) = Ev.opn o l) := by
    show _ = _
    refine (Ev.opn_bad ?_ ?_).symm
    · rw [hlen]
      unfold Ev.arity
      by_cases e3 : o = 3
      · subst e3; simp at hb1 ⊢; first | omega | exact hb1
      · by_cases e15 : o = 15
        · subst e15; simp at hb1 ⊢; first | omega | exact hb1
        · by_cases e16 : o = 16
          · subst e16; simp at hb1 ⊢; first | omega | exact hb1
          · rw [if_neg (by simp [e3, e15, e16])]
            split
            · rename_i h4; left; have := hb2 h4; omega
            · right; rfl
    · intro e; rw [e] at hlen; simp at hlen; omega
  clear hb1 hb2
  have z0 := HZ.out.cell 0
  have z1 := HZ.out.cell 1
  have z2 := HZ.out.cell 2
  simp at z0 z1 z2
  have f0 := HZ.out.frozen 0
  have f1 := HZ.out.frozen 1
  have f2 := HZ.out.frozen 2
  have HF : Hid (Fin w gR (Val.vz, 330) (((w2.setCell ⟨gR, 0, none⟩ (.int .u8 0)).setCell ⟨gR, 1, none⟩ (.int .i64 0)).setCell ⟨gR, 2, none⟩ (.string ⟨#[]⟩))) := ⟨blk3 HZ.out _ _ _, below3 HB.out hR _ _ _⟩
  go_wp2_with fail
  refine H.out _ _ (Val.vz, 330) ?_ HF.out HP.out
  exact ⟨rfl, rfl, rfl, rfl, trivial⟩
set_option linter.unusedVariables false in
set_option maxRecDepth 1000000 in
set_option maxHeartbeats 4000000 in
theorem rv_bad15 {Q : Exit → Act → World → Prop} {a : Act} (hq : q ≠ 0) (hb1 : o.toNat = 3 ∨ o.toNat = 15 ∨ o.toNat = 16 → q ≠ 1) (hb2 : 4 ≤ o.toNat ∧ o.toNat ≤ 14 → q ≠ 2) (ho : o.toNat = 15) (hF : Fr 178 a [(3, .pointer (some ⟨gX, 0, none⟩)), (6, .pointer (some ⟨gR, 0, none⟩)), (8, .slice Al q cl), (10, .int .i64 (q : Int))]) (hX : Blk w2 gX 28 #[.int .u8 (o.toNat : Int), .int .u8 (k.toNat : Int), .int .i64 n, .string s, .string nm, .string of, .int .i64 N, .slice A m c]) (hZ : Blk w2 gR 25 #[.int .u8 0, .int .i64 0, .string ⟨#[]⟩]) (hR : w.heap.size ≤ gR) (hB : Below w.heap.size w w2) (hl : Rv w2 w2.heap.size Al q l)
    (h : ∀ a' w' p, Fr 178 a' [(6, .pointer (some ⟨gR, 0, none⟩)), (7, .int .i64 (p.2 : Int))] → Fin w gR p w' → p = Ev.opn o l → Q .ret a' w') : (rv 5).wp Tryz.prog Q a w2 := by
  conv => arg 2; whnf
  obtain ⟨f, rfl, ⟨s3, s6, s8, s10, _⟩, hfr⟩ := hF.open178
  rw [hfr] at s3 s6 s8 s10
  rw [s3, s6, s8, s10]
  clear hF hfr s3 s6 s8 s10
  have H := hide h
  have HB := hide hB
  have HZ := hide hZ
  have HL := hide hl
  have x0 := hX.cell 0
  have x1 := hX.cell 1
  have x2 := hX.cell 2
  have x3 := hX.cell 3
  have x4 := hX.cell 4
  have x5 := hX.cell 5
  have x6 := hX.cell 6
  have x7 := hX.cell 7
  simp at x0 x1 x2 x3 x4 x5 x6 x7
  have hlen := hl.len
  clear h hB hZ hl hX
  have tn : ((q : Int) == 1) = false := by simp; omega
  have t3 : ((o.toNat : Int) == 3) = false := by simp; omega
  have t4 : ((o.toNat : Int) == 4) = false := by simp; omega
  have t5 : ((o.toNat : Int) == 5) = false := by simp; omega
  have t6 : ((o.toNat : Int) == 6) = false := by simp; omega
  have t13 : ((o.toNat : Int) == 13) = false := by simp; omega
  have t14 : ((o.toNat : Int) == 14) = false := by simp; omega
  have t15 : ((o.toNat : Int) == 15) = true := by simp; omega
  have t16 : ((o.toNat : Int) == 16) = false := by simp; omega
  have t7 : decide ((7 : Int) ≤ (o.toNat : Int)) = true := decide_eq_true (by omega)
  have t12 : decide ((o.toNat : Int) ≤ 12) = false := decide_eq_false (by omega)
  have HP : Hid ((Val.vz, 330) = Ev.opn o l) := by
    show _ = _
    refine (Ev.opn_bad ?_ ?_).symm
    · rw [hlen]
      unfold Ev.arity
      by_cases e3 : o = 3
      · subst e3; simp at hb1 ⊢; first | omega | exact hb1
      · by_cases e15 : o = 15
        · subst e15; simp at hb1 ⊢; first | omega | exact hb1
        · by_cases e16 : o = 16
          · subst e16; simp at hb1 ⊢; first | omega | exact hb1
          · rw [if_neg (by simp [e3, e15, e16])]
            split
            · rename_i h4; left; have := hb2 h4; omega
            · right; rfl
    · intro e; rw [e] at hlen; simp at hlen; omega
  clear hb1 hb2
  have z0 := HZ.out.cell 0
  have z1 := HZ.out.cell 1
  have z2 := HZ.out.cell 2
  simp at z0 z1 z2
  have f0 := HZ.out.frozen 0
  have f1 := HZ.out.frozen 1
  have f2 := HZ.out.frozen 2
  have HF : Hid (Fin w gR (Val.vz, 330) (((w2.setCell ⟨gR, 0, none⟩ (.int .u8 0)).setCell ⟨gR, 1, none⟩ (.int .i64 0)).setCell ⟨gR, 2, none⟩ (.string ⟨#[]⟩))) := ⟨blk3 HZ.out _ _ _, below3 HB.out hR _ _ _⟩
  go_wp2_with fail
  refine H.out _ _ (Val.vz, 330) ?_ HF.out HP.out
  exact ⟨rfl, rfl, rfl, rfl, trivial⟩
set_option linter.unusedVariables false in
set_option maxRecDepth 1000000 in
set_option maxHeartbeats 4000000 in
theorem rv_bad16 {Q : Exit → Act → World → Prop} {a : Act} (hq : q ≠ 0) (hb1 : o.toNat = 3 ∨ o.toNat = 15 ∨ o.toNat = 16 → q ≠ 1) (hb2 : 4 ≤ o.toNat ∧ o.toNat ≤ 14 → q ≠ 2) (ho : o.toNat = 16) (hF : Fr 178 a [(3, .pointer (some ⟨gX, 0, none⟩)), (6, .pointer (some ⟨gR, 0, none⟩)), (8, .slice Al q cl), (10, .int .i64 (q : Int))]) (hX : Blk w2 gX 28 #[.int .u8 (o.toNat : Int), .int .u8 (k.toNat : Int), .int .i64 n, .string s, .string nm, .string of, .int .i64 N, .slice A m c]) (hZ : Blk w2 gR 25 #[.int .u8 0, .int .i64 0, .string ⟨#[]⟩]) (hR : w.heap.size ≤ gR) (hB : Below w.heap.size w w2) (hl : Rv w2 w2.heap.size Al q l)
    (h : ∀ a' w' p, Fr 178 a' [(6, .pointer (some ⟨gR, 0, none⟩)), (7, .int .i64 (p.2 : Int))] → Fin w gR p w' → p = Ev.opn o l → Q .ret a' w') : (rv 5).wp Tryz.prog Q a w2 := by
  conv => arg 2; whnf
  obtain ⟨f, rfl, ⟨s3, s6, s8, s10, _⟩, hfr⟩ := hF.open178
  rw [hfr] at s3 s6 s8 s10
  rw [s3, s6, s8, s10]
  clear hF hfr s3 s6 s8 s10
  have H := hide h
  have HB := hide hB
  have HZ := hide hZ
  have HL := hide hl
  have x0 := hX.cell 0
  have x1 := hX.cell 1
  have x2 := hX.cell 2
  have x3 := hX.cell 3
  have x4 := hX.cell 4
  have x5 := hX.cell 5
  have x6 := hX.cell 6
  have x7 := hX.cell 7
  simp at x0 x1 x2 x3 x4 x5 x6 x7
  have hlen := hl.len
  clear h hB hZ hl hX
  have tn : ((q : Int) == 1) = false := by simp; omega
  have t3 : ((o.toNat : Int) == 3) = false := by simp; omega
  have t4 : ((o.toNat : Int) == 4) = false := by simp; omega
  have t5 : ((o.toNat : Int) == 5) = false := by simp; omega
  have t6 : ((o.toNat : Int) == 6) = false := by simp; omega
  have t13 : ((o.toNat : Int) == 13) = false := by simp; omega
  have t14 : ((o.toNat : Int) == 14) = false := by simp; omega
  have t15 : ((o.toNat : Int) == 15) = false := by simp; omega
  have t16 : ((o.toNat : Int) == 16) = true := by simp; omega
  have t7 : decide ((7 : Int) ≤ (o.toNat : Int)) = true := decide_eq_true (by omega)
  have t12 : decide ((o.toNat : Int) ≤ 12) = false := decide_eq_false (by omega)
  have HP : Hid ((Val.vz, 330) = Ev.opn o l) := by
    show _ = _
    refine (Ev.opn_bad ?_ ?_).symm
    · rw [hlen]
      unfold Ev.arity
      by_cases e3 : o = 3
      · subst e3; simp at hb1 ⊢; first | omega | exact hb1
      · by_cases e15 : o = 15
        · subst e15; simp at hb1 ⊢; first | omega | exact hb1
        · by_cases e16 : o = 16
          · subst e16; simp at hb1 ⊢; first | omega | exact hb1
          · rw [if_neg (by simp [e3, e15, e16])]
            split
            · rename_i h4; left; have := hb2 h4; omega
            · right; rfl
    · intro e; rw [e] at hlen; simp at hlen; omega
  clear hb1 hb2
  have z0 := HZ.out.cell 0
  have z1 := HZ.out.cell 1
  have z2 := HZ.out.cell 2
  simp at z0 z1 z2
  have f0 := HZ.out.frozen 0
  have f1 := HZ.out.frozen 1
  have f2 := HZ.out.frozen 2
  have HF : Hid (Fin w gR (Val.vz, 330) (((w2.setCell ⟨gR, 0, none⟩ (.int .u8 0)).setCell ⟨gR, 1, none⟩ (.int .i64 0)).setCell ⟨gR, 2, none⟩ (.string ⟨#[]⟩))) := ⟨blk3 HZ.out _ _ _, below3 HB.out hR _ _ _⟩
  go_wp2_with fail
  refine H.out _ _ (Val.vz, 330) ?_ HF.out HP.out
  exact ⟨rfl, rfl, rfl, rfl, trivial⟩
set_option linter.unusedVariables false in
set_option maxRecDepth 1000000 in
set_option maxHeartbeats 4000000 in
theorem rv_badC {Q : Exit → Act → World → Prop} {a : Act} (hq : q ≠ 0) (hb1 : o.toNat = 3 ∨ o.toNat = 15 ∨ o.toNat = 16 → q ≠ 1) (hb2 : 4 ≤ o.toNat ∧ o.toNat ≤ 14 → q ≠ 2) (h7 : 7 ≤ o.toNat) (h12 : o.toNat ≤ 12) (hF : Fr 178 a [(3, .pointer (some ⟨gX, 0, none⟩)), (6, .pointer (some ⟨gR, 0, none⟩)), (8, .slice Al q cl), (10, .int .i64 (q : Int))]) (hX : Blk w2 gX 28 #[.int .u8 (o.toNat : Int), .int .u8 (k.toNat : Int), .int .i64 n, .string s, .string nm, .string of, .int .i64 N, .slice A m c]) (hZ : Blk w2 gR 25 #[.int .u8 0, .int .i64 0, .string ⟨#[]⟩]) (hR : w.heap.size ≤ gR) (hB : Below w.heap.size w w2) (hl : Rv w2 w2.heap.size Al q l)
    (h : ∀ a' w' p, Fr 178 a' [(6, .pointer (some ⟨gR, 0, none⟩)), (7, .int .i64 (p.2 : Int))] → Fin w gR p w' → p = Ev.opn o l → Q .ret a' w') : (rv 5).wp Tryz.prog Q a w2 := by
  conv => arg 2; whnf
  obtain ⟨f, rfl, ⟨s3, s6, s8, s10, _⟩, hfr⟩ := hF.open178
  rw [hfr] at s3 s6 s8 s10
  rw [s3, s6, s8, s10]
  clear hF hfr s3 s6 s8 s10
  have H := hide h
  have HB := hide hB
  have HZ := hide hZ
  have HL := hide hl
  have x0 := hX.cell 0
  have x1 := hX.cell 1
  have x2 := hX.cell 2
  have x3 := hX.cell 3
  have x4 := hX.cell 4
  have x5 := hX.cell 5
  have x6 := hX.cell 6
  have x7 := hX.cell 7
  simp at x0 x1 x2 x3 x4 x5 x6 x7
  have hlen := hl.len
  clear h hB hZ hl hX
  have tn : ((q : Int) == 2) = false := by simp; omega
  have t3 : ((o.toNat : Int) == 3) = false := by simp; omega
  have t4 : ((o.toNat : Int) == 4) = false := by simp; omega
  have t5 : ((o.toNat : Int) == 5) = false := by simp; omega
  have t6 : ((o.toNat : Int) == 6) = false := by simp; omega
  have t13 : ((o.toNat : Int) == 13) = false := by simp; omega
  have t14 : ((o.toNat : Int) == 14) = false := by simp; omega
  have t15 : ((o.toNat : Int) == 15) = false := by simp; omega
  have t16 : ((o.toNat : Int) == 16) = false := by simp; omega
  have t7 : decide ((7 : Int) ≤ (o.toNat : Int)) = true := decide_eq_true (by omega)
  have t12 : decide ((o.toNat : Int) ≤ 12) = true := decide_eq_true (by omega)
  have HP : Hid ((Val.vz, 330) = Ev.opn o l) := by
    show _ = _
    refine (Ev.opn_bad ?_ ?_).symm
    · rw [hlen]
      unfold Ev.arity
      by_cases e3 : o = 3
      · subst e3; simp at hb1 ⊢; first | omega | exact hb1
      · by_cases e15 : o = 15
        · subst e15; simp at hb1 ⊢; first | omega | exact hb1
        · by_cases e16 : o = 16
          · subst e16; simp at hb1 ⊢; first | omega | exact hb1
          · rw [if_neg (by simp [e3, e15, e16])]
            split
            · rename_i h4; left; have := hb2 h4; omega
            · right; rfl
    · intro e; rw [e] at hlen; simp at hlen; omega
  clear hb1 hb2
  have z0 := HZ.out.cell 0
  have z1 := HZ.out.cell 1
  have z2 := HZ.out.cell 2
  simp at z0 z1 z2
  have f0 := HZ.out.frozen 0
  have f1 := HZ.out.frozen 1
  have f2 := HZ.out.frozen 2
  have HF : Hid (Fin w gR (Val.vz, 330) (((w2.setCell ⟨gR, 0, none⟩ (.int .u8 0)).setCell ⟨gR, 1, none⟩ (.int .i64 0)).setCell ⟨gR, 2, none⟩ (.string ⟨#[]⟩))) := ⟨blk3 HZ.out _ _ _, below3 HB.out hR _ _ _⟩
  go_wp2_with fail
  refine H.out _ _ (Val.vz, 330) ?_ HF.out HP.out
  exact ⟨rfl, rfl, rfl, rfl, trivial⟩
set_option linter.unusedVariables false in
set_option maxRecDepth 1000000 in
set_option maxHeartbeats 4000000 in
theorem rv_badH {Q : Exit → Act → World → Prop} {a : Act} (hq : q ≠ 0) (hb1 : o.toNat = 3 ∨ o.toNat = 15 ∨ o.toNat = 16 → q ≠ 1) (hb2 : 4 ≤ o.toNat ∧ o.toNat ≤ 14 → q ≠ 2) (ho : 16 < o.toNat) (hF : Fr 178 a [(3, .pointer (some ⟨gX, 0, none⟩)), (6, .pointer (some ⟨gR, 0, none⟩)), (8, .slice Al q cl), (10, .int .i64 (q : Int))]) (hX : Blk w2 gX 28 #[.int .u8 (o.toNat : Int), .int .u8 (k.toNat : Int), .int .i64 n, .string s, .string nm, .string of, .int .i64 N, .slice A m c]) (hZ : Blk w2 gR 25 #[.int .u8 0, .int .i64 0, .string ⟨#[]⟩]) (hR : w.heap.size ≤ gR) (hB : Below w.heap.size w w2) (hl : Rv w2 w2.heap.size Al q l)
    (h : ∀ a' w' p, Fr 178 a' [(6, .pointer (some ⟨gR, 0, none⟩)), (7, .int .i64 (p.2 : Int))] → Fin w gR p w' → p = Ev.opn o l → Q .ret a' w') : (rv 5).wp Tryz.prog Q a w2 := by
  conv => arg 2; whnf
  obtain ⟨f, rfl, ⟨s3, s6, s8, s10, _⟩, hfr⟩ := hF.open178
  rw [hfr] at s3 s6 s8 s10
  rw [s3, s6, s8, s10]
  clear hF hfr s3 s6 s8 s10
  have H := hide h
  have HB := hide hB
  have HZ := hide hZ
  have HL := hide hl
  have x0 := hX.cell 0
  have x1 := hX.cell 1
  have x2 := hX.cell 2
  have x3 := hX.cell 3
  have x4 := hX.cell 4
  have x5 := hX.cell 5
  have x6 := hX.cell 6
  have x7 := hX.cell 7
  simp at x0 x1 x2 x3 x4 x5 x6 x7
  have hlen := hl.len
  clear h hB hZ hl hX
  have t3 : ((o.toNat : Int) == 3) = false := by simp; omega
  have t4 : ((o.toNat : Int) == 4) = false := by simp; omega
  have t5 : ((o.toNat : Int) == 5) = false := by simp; omega
  have t6 : ((o.toNat : Int) == 6) = false := by simp; omega
  have t13 : ((o.toNat : Int) == 13) = false := by simp; omega
  have t14 : ((o.toNat : Int) == 14) = false := by simp; omega
  have t15 : ((o.toNat : Int) == 15) = false := by simp; omega
  have t16 : ((o.toNat : Int) == 16) = false := by simp; omega
  have t7 : decide ((7 : Int) ≤ (o.toNat : Int)) = true := decide_eq_true (by omega)
  have t12 : decide ((o.toNat : Int) ≤ 12) = false := decide_eq_false (by omega)
  have HP : Hid ((Val.vz, 330) = Ev.opn o l) := by
    show _ = _
    refine (Ev.opn_bad ?_ ?_).symm
    · rw [hlen]
      unfold Ev.arity
      by_cases e3 : o = 3
      · subst e3; simp at hb1 ⊢; first | omega | exact hb1
      · by_cases e15 : o = 15
        · subst e15; simp at hb1 ⊢; first | omega | exact hb1
        · by_cases e16 : o = 16
          · subst e16; simp at hb1 ⊢; first | omega | exact hb1
          · rw [if_neg (by simp [e3, e15, e16])]
            split
            · rename_i h4; left; have := hb2 h4; omega
            · right; rfl
    · intro e; rw [e] at hlen; simp at hlen; omega
  clear hb1 hb2
  have z0 := HZ.out.cell 0
  have z1 := HZ.out.cell 1
  have z2 := HZ.out.cell 2
  simp at z0 z1 z2
  have f0 := HZ.out.frozen 0
  have f1 := HZ.out.frozen 1
  have f2 := HZ.out.frozen 2
  have HF : Hid (Fin w gR (Val.vz, 330) (((w2.setCell ⟨gR, 0, none⟩ (.int .u8 0)).setCell ⟨gR, 1, none⟩ (.int .i64 0)).setCell ⟨gR, 2, none⟩ (.string ⟨#[]⟩))) := ⟨blk3 HZ.out _ _ _, below3 HB.out hR _ _ _⟩
  go_wp2_with fail
  refine H.out _ _ (Val.vz, 330) ?_ HF.out HP.out
  exact ⟨rfl, rfl, rfl, rfl, trivial⟩
set_option linter.unusedVariables false in
set_option maxRecDepth 1000000 in
set_option maxHeartbeats 4000000 in
theorem rv_badL {Q : Exit → Act → World → Prop} {a : Act} (hq : q ≠ 0) (hb1 : o.toNat = 3 ∨ o.toNat = 15 ∨ o.toNat = 16 → q ≠ 1) (hb2 : 4 ≤ o.toNat ∧ o.toNat ≤ 14 → q ≠ 2) (ho : o.toNat < 3) (hF : Fr 178 a [(3, .pointer (some ⟨gX, 0, none⟩)), (6, .pointer (some ⟨gR, 0, none⟩)), (8, .slice Al q cl), (10, .int .i64 (q : Int))]) (hX : Blk w2 gX 28 #[.int .u8 (o.toNat : Int), .int .u8 (k.toNat : Int), .int .i64 n, .string s, .string nm, .string of, .int .i64 N, .slice A m c]) (hZ : Blk w2 gR 25 #[.int .u8 0, .int .i64 0, .string ⟨#[]⟩]) (hR : w.heap.size ≤ gR) (hB : Below w.heap.size w w2) (hl : Rv w2 w2.heap.size Al q l)
    (h : ∀ a' w' p, Fr 178 a' [(6, .pointer (some ⟨gR, 0, none⟩)), (7, .int .i64 (p.2 : Int))] → Fin w gR p w' → p = Ev.opn o l → Q .ret a' w') : (rv 5).wp Tryz.prog Q a w2 := by
  conv => arg 2; whnf
  obtain ⟨f, rfl, ⟨s3, s6, s8, s10, _⟩, hfr⟩ := hF.open178
  rw [hfr] at s3 s6 s8 s10
  rw [s3, s6, s8, s10]
  clear hF hfr s3 s6 s8 s10
  have H := hide h
  have HB := hide hB
  have HZ := hide hZ
  have HL := hide hl
  have x0 := hX.cell 0
  have x1 := hX.cell 1
  have x2 := hX.cell 2
  have x3 := hX.cell 3
  have x4 := hX.cell 4
  have x5 := hX.cell 5
  have x6 := hX.cell 6
  have x7 := hX.cell 7
  simp at x0 x1 x2 x3 x4 x5 x6 x7
  have hlen := hl.len
  clear h hB hZ hl hX
  have t3 : ((o.toNat : Int) == 3) = false := by simp; omega
  have t4 : ((o.toNat : Int) == 4) = false := by simp; omega
  have t5 : ((o.toNat : Int) == 5) = false := by simp; omega
  have t6 : ((o.toNat : Int) == 6) = false := by simp; omega
  have t13 : ((o.toNat : Int) == 13) = false := by simp; omega
  have t14 : ((o.toNat : Int) == 14) = false := by simp; omega
  have t15 : ((o.toNat : Int) == 15) = false := by simp; omega
  have t16 : ((o.toNat : Int) == 16) = false := by simp; omega
  have t7 : decide ((7 : Int) ≤ (o.toNat : Int)) = false := decide_eq_false (by omega)
  have HP : Hid ((Val.vz, 330) = Ev.opn o l) := by
    show _ = _
    refine (Ev.opn_bad ?_ ?_).symm
    · rw [hlen]
      unfold Ev.arity
      by_cases e3 : o = 3
      · subst e3; simp at hb1 ⊢; first | omega | exact hb1
      · by_cases e15 : o = 15
        · subst e15; simp at hb1 ⊢; first | omega | exact hb1
        · by_cases e16 : o = 16
          · subst e16; simp at hb1 ⊢; first | omega | exact hb1
          · rw [if_neg (by simp [e3, e15, e16])]
            split
            · rename_i h4; left; have := hb2 h4; omega
            · right; rfl
    · intro e; rw [e] at hlen; simp at hlen; omega
  clear hb1 hb2
  have z0 := HZ.out.cell 0
  have z1 := HZ.out.cell 1
  have z2 := HZ.out.cell 2
  simp at z0 z1 z2
  have f0 := HZ.out.frozen 0
  have f1 := HZ.out.frozen 1
  have f2 := HZ.out.frozen 2
  have HF : Hid (Fin w gR (Val.vz, 330) (((w2.setCell ⟨gR, 0, none⟩ (.int .u8 0)).setCell ⟨gR, 1, none⟩ (.int .i64 0)).setCell ⟨gR, 2, none⟩ (.string ⟨#[]⟩))) := ⟨blk3 HZ.out _ _ _, below3 HB.out hR _ _ _⟩
  go_wp2_with fail
  refine H.out _ _ (Val.vz, 330) ?_ HF.out HP.out
  exact ⟨rfl, rfl, rfl, rfl, trivial⟩
end
end Go.Proofs.YticljmgcgjibpaaGreatDoor
