/-
  Frames of more sizes, laid open. Conditions: none. No program is named here.
-/
import Derived.Test.YticljmgcgjibpaaGreatDoorPieces
import Derived.Test.YticljmgcgjibpaaGreatDoorRfF
namespace Go.Proofs.YticljmgcgjibpaaGreatDoor
open Go Go.RowKit

set_option maxRecDepth 1000000 in
theorem Fr.open178 {a : Act} {l : List (Nat × Value)} (h : Fr 178 a l) : ∃ f : Nat → Value, a = ⟨#[f 0, f 1, f 2, f 3, f 4, f 5, f 6, f 7, f 8, f 9, f 10, f 11, f 12, f 13, f 14, f 15, f 16, f 17, f 18, f 19, f 20, f 21, f 22, f 23, f 24, f 25, f 26, f 27, f 28, f 29, f 30, f 31, f 32, f 33, f 34, f 35, f 36, f 37, f 38, f 39, f 40, f 41, f 42, f 43, f 44, f 45, f 46, f 47, f 48, f 49, f 50, f 51, f 52, f 53, f 54, f 55, f 56, f 57, f 58, f 59, f 60, f 61, f 62, f 63, f 64, f 65, f 66, f 67, f 68, f 69, f 70, f 71, f 72, f 73, f 74, f 75, f 76, f 77, f 78, f 79, f 80, f 81, f 82, f 83, f 84, f 85, f 86, f 87, f 88, f 89, f 90, f 91, f 92, f 93, f 94, f 95, f 96, f 97, f 98, f 99, f 100, f 101, f 102, f 103, f 104, f 105, f 106, f 107, f 108, f 109, f 110, f 111, f 112, f 113, f 114, f 115, f 116, f 117, f 118, f 119, f 120, f 121, f 122, f 123, f 124, f 125, f 126, f 127, f 128, f 129, f 130, f 131, f 132, f 133, f 134, f 135, f 136, f 137, f 138, f 139, f 140, f 141, f 142, f 143, f 144, f 145, f 146, f 147, f 148, f 149, f 150, f 151, f 152, f 153, f 154, f 155, f 156, f 157, f 158, f 159, f 160, f 161, f 162, f 163, f 164, f 165, f 166, f 167, f 168, f 169, f 170, f 171, f 172, f 173, f 174, f 175, f 176, f 177], []⟩ ∧ slots a l ∧ ∀ i, a.tmps.getD i undef = f i := by
  obtain ⟨t, d⟩ := a
  obtain ⟨h1, h2, h3⟩ := h
  simp only at h1 h2
  subst h2
  have e : t = ((List.range 178).map fun i => t.getD i undef).toArray := by
    refine Array.ext (by simp [h1]) fun i h4 h5 => ?_
    simp [h4]
  have e2 : ((List.range 178).map fun i => t.getD i undef).toArray = (fun f : Nat → Value => #[f 0, f 1, f 2, f 3, f 4, f 5, f 6, f 7, f 8, f 9, f 10, f 11, f 12, f 13, f 14, f 15, f 16, f 17, f 18, f 19, f 20, f 21, f 22, f 23, f 24, f 25, f 26, f 27, f 28, f 29, f 30, f 31, f 32, f 33, f 34, f 35, f 36, f 37, f 38, f 39, f 40, f 41, f 42, f 43, f 44, f 45, f 46, f 47, f 48, f 49, f 50, f 51, f 52, f 53, f 54, f 55, f 56, f 57, f 58, f 59, f 60, f 61, f 62, f 63, f 64, f 65, f 66, f 67, f 68, f 69, f 70, f 71, f 72, f 73, f 74, f 75, f 76, f 77, f 78, f 79, f 80, f 81, f 82, f 83, f 84, f 85, f 86, f 87, f 88, f 89, f 90, f 91, f 92, f 93, f 94, f 95, f 96, f 97, f 98, f 99, f 100, f 101, f 102, f 103, f 104, f 105, f 106, f 107, f 108, f 109, f 110, f 111, f 112, f 113, f 114, f 115, f 116, f 117, f 118, f 119, f 120, f 121, f 122, f 123, f 124, f 125, f 126, f 127, f 128, f 129, f 130, f 131, f 132, f 133, f 134, f 135, f 136, f 137, f 138, f 139, f 140, f 141, f 142, f 143, f 144, f 145, f 146, f 147, f 148, f 149, f 150, f 151, f 152, f 153, f 154, f 155, f 156, f 157, f 158, f 159, f 160, f 161, f 162, f 163, f 164, f 165, f 166, f 167, f 168, f 169, f 170, f 171, f 172, f 173, f 174, f 175, f 176, f 177]) fun i => t.getD i undef := by kernel_rfl
  exact ⟨fun i => t.getD i undef, by conv => lhs; rw [e, e2], h3, fun i => rfl⟩
end Go.Proofs.YticljmgcgjibpaaGreatDoor

/-
  The walks of chanceryref24.kids, Value, Is. Conditions: what is read reads as a tree, and as a row.
-/
namespace Go.Proofs.YticljmgcgjibpaaGreatDoor
open Go.RowKit

def RVc (d : Nat) : Prop := ∀ (h : Ev.Hd) (ks : List Ev.Ex) (A : Option Addr) (m c : Nat) (Ar : Option Addr) (nr cr : Nat) (r : List Cell.Val) (role : ByteArray) (w : World), ExK w (· < w.heap.size) d A m ks → HdOk h → Rv w w.heap.size Ar nr r → nr ≤ 9223372036854775807 → role.size ≤ 9223372036854775807 →
  Calls Tryz.prog 8 #[exV h A m c, .slice Ar nr cr, .string role] w fun e w' => e = .returned (ansV ((Ev.Ex.mk h ks).val r role)) ∧ Below w.heap.size w w'
def RKc (d : Nat) : Prop := ∀ (h : Ev.Hd) (ks : List Ev.Ex) (A : Option Addr) (m c : Nat) (Ar : Option Addr) (nr cr : Nat) (r : List Cell.Val) (role : ByteArray) (w : World), ExK w (· < w.heap.size) d A m ks → HdOk h → Rv w w.heap.size Ar nr r → nr ≤ 9223372036854775807 → role.size ≤ 9223372036854775807 →
  Calls Tryz.prog 23 #[exV h A m c, .slice Ar nr cr, .string role] w fun e w' => ∃ A' c', e = .returned (.tuple #[.slice A' (Ev.vals r role ks).1.length c', .int .i64 ((Ev.vals r role ks).2 : Int)]) ∧ Rv w' w'.heap.size A' (Ev.vals r role ks).1.length (Ev.vals r role ks).1 ∧ (Ev.vals r role ks).1.length ≤ m ∧ Below w.heap.size w w'
set_option linter.unusedVariables false in
set_option maxRecDepth 1000000 in
set_option maxHeartbeats 4000000 in
theorem rkids_step (d : Nat) (ih : ∀ d', d = d' + 1 → RVc d') : RKc d := by
  intro h ks A m c Ar nr cr r role w hex hok hr hnr hro
  have HEx := hide hex
  have HIh := hide ih
  have HR := hide hr
  obtain ⟨hml, hmb⟩ := hex.len
  have HMl := hide hml
  clear hex hok hr hml ih
  obtain ⟨o, ⟨k, n, s⟩, nm, of, N⟩ := h
  unfold exV
  simp only
  obtain ⟨w1, hw1⟩ : ∃ w1, w1 = w.alloc (.cells #[.int .u8 (o.toNat : Int), .int .u8 (k.toNat : Int), .int .i64 n, .string s, .string nm, .string of, .int .i64 N, .slice A m c] 28) := ⟨_, rfl⟩
  have HX : Hid (Blk w1 w.heap.size 28 #[.int .u8 (o.toNat : Int), .int .u8 (k.toNat : Int), .int .i64 n, .string s, .string nm, .string of, .int .i64 N, .slice A m c]) := by rw [hw1]; exact Blk.new _ _ _
  have HB : Hid (Below w.heap.size w w1) := by rw [hw1]; exact (Below.refl _ _).alloc (Nat.le_refl _) _
  have hs1 : w.heap.size < w1.heap.size := HX.out.lt
  have x0 := HX.out.cell 0
  have x1 := HX.out.cell 1
  have x2 := HX.out.cell 2
  have x3 := HX.out.cell 3
  have x4 := HX.out.cell 4
  have x5 := HX.out.cell 5
  have x6 := HX.out.cell 6
  have x7 := HX.out.cell 7
  simp at x0 x1 x2 x3 x4 x5 x6 x7
  go_enter Tryz.func23, Tryz.ntmps23
  go_upto_region 1 with fail
  rw [← hw1]
  clear hw1
  go_wp2_with fail
  go_loopg [8, 9] m (fun gg kv iv wr => ∃ (k : Nat) (l : List Cell.Val), k ≤ m ∧ gg = m - k ∧ iv = .int .i64 (k : Nat) ∧ Hid (Ev.vals r role (ks.take k) = (l, 0)) ∧ Hid (∀ v ∈ l, vOk v) ∧ Hid (wr.ownsRow w1.heap.size 25 3 kv l.length (vcells l)) ∧ Below w1.heap.size w1 wr)
  case atStart => exact ⟨0, [], Nat.zero_le _, rfl, rfl, rfl, fun v h => absurd h (by simp), own_nil _ _ _ _, Below.refl _ _⟩
  case round =>
    obtain ⟨j, l, hj, rfl, rfl, HT, HLo, HO, hbel⟩ := hrel
    obtain ⟨w5, hw5⟩ : ∃ w5, w5 = wr := ⟨_, rfl⟩
    subst hw5
    have HB15 := hide hbel
    have HB5 := hide (HB.out.trans (hbel.mono (by omega)))
    have HX5 := hide (HX.out.below hbel hs1)
    have hs5 := hbel.size
    have HR5 := hide (HR.out.next HB5.out)
    clear hbel x0 x1 x2 x3 x4 x5 x6 x7
    have x0 := HX5.out.cell 0
    have x1 := HX5.out.cell 1
    have x2 := HX5.out.cell 2
    have x3 := HX5.out.cell 3
    have x4 := HX5.out.cell 4
    have x5 := HX5.out.cell 5
    have x6 := HX5.out.cell 6
    have x7 := HX5.out.cell 7
    simp at x0 x1 x2 x3 x4 x5 x6 x7
    by_cases hlt : j < m
    · have hex5 := (HEx.out.next HB5.out)
      obtain ⟨d', g, off, hd, ks', A', c', hdd, rfl, hgl, hkj, c0, c1, c2, c3, c4, c5, c6, c7, e1, e2, hok', hex'⟩ := hex5.at hlt
      have HKj := hide hkj
      have HOk' := hide hok'
      obtain ⟨⟨⟨k', n', s'⟩, er⟩, hp⟩ : ∃ p, p = (Ev.Ex.mk hd ks').val r role := ⟨_, rfl⟩
      have HP := hide hp
      have hvo := vOk_val (ks := ks') HR.out.2 hok'.1 (by unfold maxLen; omega : role.size ≤ maxLen)
      rw [← hp] at hvo
      have HVo := hide hvo
      have HEx' := hide hex'
      clear hp hvo hkj hok' hex' hex5
      obtain ⟨ho, ⟨hk, hn, hs⟩, hnm, hof, hN⟩ := hd
      simp only at c0 c1 c2 c3 c4 c5 c6
      go_wp2_with fail
      have cc := HIh.out d' hdd ⟨ho, ⟨hk, hn, hs⟩, hnm, hof, hN⟩ ks' A' ks'.length c' Ar nr cr r role w5 HEx'.out HOk'.out HR5.out hnr hro
      rw [← HP.out, ansV_mk] at cc
      unfold exV at cc
      simp only at cc
      with_reducible refine cc.mono ?_
      clear cc c0 c1 c2 c3 c4 c5 c6 c7
      rintro e w7 ⟨rfl, hb7⟩
      have HB57 := hide hb7
      clear hb7
      obtain ⟨w8, hw8⟩ : ∃ w8, w8 = w7.alloc (.cells #[.int .u8 (k'.toNat : Int), .int .i64 n', .string s'] 25) := ⟨_, rfl⟩
      have hK8 : Blk w8 w7.heap.size 25 #[.int .u8 (k'.toNat : Int), .int .i64 n', .string s'] := by rw [hw8]; exact Blk.new _ _ _
      have hb8 : Below w7.heap.size w7 w8 := by rw [hw8]; exact (Below.refl _ _).alloc (Nat.le_refl _) _
      have HB58 := hide (HB57.out.trans (hb8.mono HB57.out.size))
      have HB8 := hide (HB5.out.trans (HB58.out.mono HB5.out.size))
      have hs8 := HB58.out.size
      clear hb8 x0 x1 x2 x3 x4 x5 x6 x7
      go_upto_region 6 with fail
      rw [← hw8]
      clear hw8
      have u0 := hK8.cell 0
      have u1 := hK8.cell 1
      have u2 := hK8.cell 2
      simp at u0 u1 u2
      clear hK8
      by_cases her : er = 0
      · subst her
        have HT2 : Hid (Ev.vals r role (ks.take (j + 1)) = (l ++ [⟨k', n', s'⟩], 0)) := Ev.vals_snoc HT.out HKj.out HP.out.symm
        have HLo2 : Hid (∀ v ∈ l ++ [(⟨k', n', s'⟩ : Cell.Val)], vOk v) := fun v hv => by
          rcases List.mem_append.1 hv with h | h
          · exact HLo.out v h
          · rw [List.mem_singleton] at h
            rw [h]
            exact HVo.out
        have hlen : l.length ≤ m := by
          have h1 := Ev.vals_len HT.out
          rw [List.length_take] at h1
          omega
        obtain ⟨w9, hw9⟩ : ∃ w9, w9 = w8.alloc (.cells #[.int .u8 (k'.toNat : Int), .int .i64 n', .string s'] 25) := ⟨_, rfl⟩
        have HG9 : Hid (Blk w9 w8.heap.size 25 #[.int .u8 (k'.toNat : Int), .int .i64 n', .string s']) := by rw [hw9]; exact Blk.new _ _ _
        have hb9 : Below w8.heap.size w8 w9 := by rw [hw9]; exact (Below.refl _ _).alloc (Nat.le_refl _) _
        have HB59 := hide (HB58.out.trans (hb9.mono hs8))
        have HB19 := hide (HB15.out.trans (HB59.out.mono hs5))
        have HO9 := hide (own_below HO.out HB59.out)
        have hs9 := HB19.out.size
        clear hb9
        go_wp2_with (at_builtin; rw [← hw9]; refine wpList_appV rfl (.tmp 33) (.tmp 35) Tryz.underlying29 rfl w1.heap.size _ l rfl HO9.out w8.heap.size 1 ⟨k', n', s'⟩ rfl rfl HG9.out (by omega) hs9 ?_; intro v10 w10 ho10 hb10; have HO10 := hide ho10; have HB10 := hide (HB19.out.trans hb10); clear ho10 hb10)
        go_roundg (m - (j + 1))
        case measure => omega
        case rel => exact ⟨j + 1, l ++ [⟨k', n', s'⟩], by omega, rfl, by go_num, HT2, HLo2, HO10, HB10.out⟩
      · have te : ((er : Int) != 0) = true := by simp; omega
        have HSp : Hid (Ev.vals r role ks = ([], er)) := Ev.vals_stop HT.out HKj.out HP.out.symm her
        clear her
        go_wp2_with fail
        go_ret2
        rw [HSp.out]
        exact ⟨none, 0, rfl, rv_nil _ _ _, Nat.zero_le _, HB8.out⟩
    · obtain rfl : j = m := by omega
      have htk : ks.take j = ks := List.take_of_length_le (by rw [← HMl.out]; exact Nat.le_refl _)
      have HSp : Hid (Ev.vals r role ks = (l, 0)) := by
        have := HT.out
        rw [htk] at this
        exact this
      have HLn : Hid (l.length ≤ j) := by
        have := Ev.vals_len HSp.out
        have := HMl.out
        show _ ≤ _
        omega
      obtain ⟨A1, c1, rfl⟩ := own_sl HO.out
      have HRv : Hid (Rv w5 w5.heap.size A1 l.length l) := Rv.own HO.out HLo.out
      go_wp2_with fail
      go_ret2
      rw [HSp.out]
      exact ⟨A1, c1, rfl, HRv.out, HLn.out, HB5.out⟩
end Go.Proofs.YticljmgcgjibpaaGreatDoor

/-
  The walk of the switch of chanceryref24.Value: it is Ev.opn. Conditions: what is read reads as a list of values.
-/
namespace Go.Proofs.YticljmgcgjibpaaGreatDoor
open Go.RowKit

noncomputable def rv : Nat → Code
  | 0 => Tryz.f8.body.getD .skip
  | n + 1 => cR (rv n)
section
variable {o k : UInt8} {n N : Int} {s nm of : ByteArray} {A Al : Option Addr} {m c cl gX gR q : Nat} {l : List Cell.Val} {w w2 : World}
set_option linter.unusedVariables false in
set_option maxRecDepth 1000000 in
set_option maxHeartbeats 4000000 in
theorem rv_neg {Q : Exit → Act → World → Prop} {a : Act} (ho : o.toNat = 3) (hF : Fr 178 a [(3, .pointer (some ⟨gX, 0, none⟩)), (6, .pointer (some ⟨gR, 0, none⟩)), (8, .slice Al 1 cl), (10, .int .i64 1)]) (hX : Blk w2 gX 28 #[.int .u8 (o.toNat : Int), .int .u8 (k.toNat : Int), .int .i64 n, .string s, .string nm, .string of, .int .i64 N, .slice A m c]) (hZ : Blk w2 gR 25 #[.int .u8 0, .int .i64 0, .string ⟨#[]⟩]) (hR : w.heap.size ≤ gR) (hB : Below w.heap.size w w2) (hl : Rv w2 w2.heap.size Al 1 l)
    (h : ∀ a' w' p, Fr 178 a' [(6, .pointer (some ⟨gR, 0, none⟩)), (7, .int .i64 (p.2 : Int))] → Fin w gR p w' → p = Ev.opn o l → Q .ret a' w') : (rv 5).wp Tryz.prog Q a w2 := by
  conv => arg 2; whnf
  obtain ⟨f, rfl, ⟨s3, s6, s8, s10, _⟩, hfr⟩ := hF.open178
  rw [hfr] at s3 s6 s8 s10
  rw [s3, s6, s8, s10]
  clear hF hfr s3 s6 s8 s10
  have H := hide h
  have HB := hide hB
  have HZ := hide hZ
  have HL := hide hl
  have x0 := hX.cell 0
  have x1 := hX.cell 1
  have x2 := hX.cell 2
  have x3 := hX.cell 3
  have x4 := hX.cell 4
  have x5 := hX.cell 5
  have x6 := hX.cell 6
  have x7 := hX.cell 7
  simp at x0 x1 x2 x3 x4 x5 x6 x7
  have hlen := hl.len
  clear h hB hZ hl hX
  have t3 : ((o.toNat : Int) == 3) = true := by simp; omega
  obtain ⟨b, off, k1, n1, s1, rfl, hbl, hl0, c0, c1, c2, hok⟩ := HL.out.at (k := 0) (by omega)
  rw [Nat.zero_mul, Nat.add_zero] at c0 c1 c2
  obtain ⟨h1n, h1m⟩ := hok.2
  obtain rfl : l = [⟨k1, n1, s1⟩] := by
    match l, hlen, hl0 with
    | [v], _, h => injection h with h; rw [h]
  clear hl0 hlen hok
  simp only at h1n h1m
  obtain ⟨⟨⟨pk, pn, ps⟩, pe⟩, hp⟩ : ∃ p, p = Val.neg ⟨k1, n1, s1⟩ := ⟨_, rfl⟩
  have HP : Hid ((⟨pk, pn, ps⟩, pe) = Ev.opn o [⟨k1, n1, s1⟩]) := by show _ = _; rw [hp, Ev.o_eq ho]; rfl
  have HQ := hide hp
  clear hp ho
  go_wp2_with fail
  have cc := rNeg_any k1 n1 s1 w2 h1n h1m
  rw [← HQ.out, ansV_mk] at cc
  with_reducible refine cc.mono ?_
  clear cc
  rintro e w3 ⟨rfl, hb⟩
  replace HZ := hide (HZ.out.below hb HZ.out.lt)
  replace HB := hide (HB.out.trans (hb.mono HB.out.size))
  clear hb c0 c1 c2 x0 x1 x2 x3 x4 x5 x6 x7
  have z0 := HZ.out.cell 0
  have z1 := HZ.out.cell 1
  have z2 := HZ.out.cell 2
  simp at z0 z1 z2
  have f0 := HZ.out.frozen 0
  have f1 := HZ.out.frozen 1
  have f2 := HZ.out.frozen 2
  have HF : Hid (Fin w gR (⟨pk, pn, ps⟩, pe) (((w3.setCell ⟨gR, 0, none⟩ (.int .u8 (pk.toNat : Int))).setCell ⟨gR, 1, none⟩ (.int .i64 pn)).setCell ⟨gR, 2, none⟩ (.string ps))) := ⟨blk3 HZ.out _ _ _, below3 HB.out hR _ _ _⟩
  go_wp2_with fail
  refine H.out _ _ (⟨pk, pn, ps⟩, pe) ?_ HF.out HP.out
  exact ⟨rfl, rfl, rfl, rfl, trivial⟩
set_option linter.unusedVariables false in
set_option maxRecDepth 1000000 in
set_option maxHeartbeats 4000000 in
theorem rv_add {Q : Exit → Act → World → Prop} {a : Act} (ho : o.toNat = 4) (hF : Fr 178 a [(3, .pointer (some ⟨gX, 0, none⟩)), (6, .pointer (some ⟨gR, 0, none⟩)), (8, .slice Al 2 cl), (10, .int .i64 2)]) (hX : Blk w2 gX 28 #[.int .u8 (o.toNat : Int), .int .u8 (k.toNat : Int), .int .i64 n, .string s, .string nm, .string of, .int .i64 N, .slice A m c]) (hZ : Blk w2 gR 25 #[.int .u8 0, .int .i64 0, .string ⟨#[]⟩]) (hR : w.heap.size ≤ gR) (hB : Below w.heap.size w w2) (hl : Rv w2 w2.heap.size Al 2 l)
    (h : ∀ a' w' p, Fr 178 a' [(6, .pointer (some ⟨gR, 0, none⟩)), (7, .int .i64 (p.2 : Int))] → Fin w gR p w' → p = Ev.opn o l → Q .ret a' w') : (rv 5).wp Tryz.prog Q a w2 := by
  conv => arg 2; whnf
  obtain ⟨f, rfl, ⟨s3, s6, s8, s10, _⟩, hfr⟩ := hF.open178
  rw [hfr] at s3 s6 s8 s10
  rw [s3, s6, s8, s10]
  clear hF hfr s3 s6 s8 s10
  have H := hide h
  have HB := hide hB
  have HZ := hide hZ
  have HL := hide hl
  have x0 := hX.cell 0
  have x1 := hX.cell 1
  have x2 := hX.cell 2
  have x3 := hX.cell 3
  have x4 := hX.cell 4
  have x5 := hX.cell 5
  have x6 := hX.cell 6
  have x7 := hX.cell 7
  simp at x0 x1 x2 x3 x4 x5 x6 x7
  have hlen := hl.len
  clear h hB hZ hl hX
  have t3 : ((o.toNat : Int) == 3) = false := by simp; omega
  have t4 : ((o.toNat : Int) == 4) = true := by simp; omega
  obtain ⟨b, off, k1, n1, s1, rfl, hbl, hl0, c0, c1, c2, hok⟩ := HL.out.at (k := 0) (by omega)
  obtain ⟨b2, off2, k2, n2, s2, e, hbl2, hl1, d0, d1, d2, hok2⟩ := HL.out.at (k := 1) (by omega)
  injection e with e
  injection e with e1 e2
  subst e1 e2
  rw [Nat.zero_mul, Nat.add_zero] at c0 c1 c2
  rw [Nat.one_mul] at d0 d1 d2
  obtain ⟨h1n, h1m⟩ := hok.2
  obtain ⟨h2n, h2m⟩ := hok2.2
  obtain rfl : l = [⟨k1, n1, s1⟩, ⟨k2, n2, s2⟩] := by
    match l, hlen, hl0, hl1 with
    | [v, u], _, h, h' => injection h with h; injection h' with h'; rw [h, h']
  clear hl0 hl1 hlen hok hok2
  simp only at h1n h1m h2n h2m
  obtain ⟨⟨⟨pk, pn, ps⟩, pe⟩, hp⟩ : ∃ p, p = Val.add ⟨k1, n1, s1⟩ ⟨k2, n2, s2⟩ := ⟨_, rfl⟩
  have HP : Hid ((⟨pk, pn, ps⟩, pe) = Ev.opn o [⟨k1, n1, s1⟩, ⟨k2, n2, s2⟩]) := by show _ = _; rw [hp, Ev.o_eq ho]; rfl
  have HQ := hide hp
  clear hp ho
  go_upto_region 10 with fail
  have hTs := tab_stable (l := [(6, NoF)]) (fun p hp => by
      simp only [List.mem_cons, List.not_mem_nil, or_false] at hp
      subst hp
      exact NoF.stable)
  have hSs := shp_some (l := [(6, IsV (.tuple #[.agg #[.int .u8 (pk.toNat : Int), .int .i64 pn, .string ps], .int .i64 (pe : Int)]))]) (fun p hp => by
      simp only [List.mem_cons, List.not_mem_nil, or_false] at hp
      subst hp
      exact IsV.some _)
  have HTs := hide hTs
  have HSs := hide hSs
  clear hTs hSs
  refine wp_region_toldL (tab [(6, NoF)]) (Up w2) (w2.heap.size) 9 (shp [(6, IsV (.tuple #[.agg #[.int .u8 (pk.toNat : Int), .int .i64 pn, .string ps], .int .i64 (pe : Int)]))]) (HSs.out) (HTs.out) (Up.lives _) Gro (Gro.turns (Up.lives _) (HTs.out)) (by kernel_rfl) (by kernel_rfl) (Up.start _) (Nat.le_refl _) ?_
  simp only [List.take_succ_cons, List.take_zero, List.drop_succ_cons, List.drop_zero]
  refine wpTold_read ?_ rfl rfl (fun w' hS => ?_) ?_
  rotate_left
  · go_simp
    rfl
  go_frame
  refine wpTold_read ?_ rfl rfl (fun w' hS => ?_) ?_
  rotate_left
  · go_simp
    rfl
  go_frame
  refine wpTold_read ?_ rfl rfl (fun w' hS => ?_) ?_
  rotate_left
  · have l0 := (hS.cell (p := ⟨b, off, none⟩) hbl).trans c0
    have l1 := (hS.cell (p := ⟨b, off + 1, none⟩) hbl).trans c1
    have l2 := (hS.cell (p := ⟨b, off + 2, none⟩) hbl).trans c2
    go_simp
    rfl
  go_frame
  refine wpTold_read ?_ rfl rfl (fun w' hS => ?_) ?_
  rotate_left
  · go_simp
    rfl
  go_frame
  refine wpTold_read ?_ rfl rfl (fun w' hS => ?_) ?_
  rotate_left
  · go_simp
    rfl
  go_frame
  refine wpTold_read ?_ rfl rfl (fun w' hS => ?_) ?_
  rotate_left
  · have l0 := (hS.cell (p := ⟨b, off + 3, none⟩) hbl).trans d0
    have l1 := (hS.cell (p := ⟨b, off + 3 + 1, none⟩) hbl).trans d1
    have l2 := (hS.cell (p := ⟨b, off + 3 + 2, none⟩) hbl).trans d2
    go_simp
    rfl
  go_frame
  refine' wpTold_call _ _ _ rfl rfl (fun w' => ?_) (fun w' hS hh hs => ?_) (fun v6 h6 => ?_)
  rotate_left 2
  · go_simp
    constructor <;> rfl
  · have cc := rAdd_any k1 n1 s1 k2 n2 s2 w' h1n h1m h2n h2m
    rw [← HQ.out, ansV_mk] at cc
    refine cc.mono ?_
    rintro e w9 ⟨rfl, hb⟩
    exact ⟨_, rfl, ⟨rfl, trivial⟩, hb⟩
  obtain rfl := h6
  go_frame
  refine wpTold_read ?_ rfl rfl (fun w' hS => ?_) ?_
  rotate_left
  · go_simp
    rfl
  go_frame
  refine wpTold_read ?_ rfl rfl (fun w' hS => ?_) ?_
  rotate_left
  · go_simp
    rfl
  go_frame
  refine wpTold_nil fun w6 hH => ?_
  have hup : Below w2.heap.size w2 w6 := hH.s
  replace HZ := hide (HZ.out.below hup HZ.out.lt)
  replace HB := hide (HB.out.trans (hup.mono HB.out.size))
  clear hH hup c0 c1 c2 d0 d1 d2 x0 x1 x2 x3 x4 x5 x6 x7
  have z0 := HZ.out.cell 0
  have z1 := HZ.out.cell 1
  have z2 := HZ.out.cell 2
  simp at z0 z1 z2
  have f0 := HZ.out.frozen 0
  have f1 := HZ.out.frozen 1
  have f2 := HZ.out.frozen 2
  have HF : Hid (Fin w gR (⟨pk, pn, ps⟩, pe) (((w6.setCell ⟨gR, 0, none⟩ (.int .u8 (pk.toNat : Int))).setCell ⟨gR, 1, none⟩ (.int .i64 pn)).setCell ⟨gR, 2, none⟩ (.string ps))) := ⟨blk3 HZ.out _ _ _, below3 HB.out hR _ _ _⟩
  go_wp2_with fail
  refine H.out _ _ (⟨pk, pn, ps⟩, pe) ?_ HF.out HP.out
  exact ⟨rfl, rfl, rfl, rfl, trivial⟩
set_option linter.unusedVariables false in
set_option maxRecDepth 1000000 in
set_option maxHeartbeats 4000000 in
theorem rv_sub {Q : Exit → Act → World → Prop} {a : Act} (ho : o.toNat = 5) (hF : Fr 178 a [(3, .pointer (some ⟨gX, 0, none⟩)), (6, .pointer (some ⟨gR, 0, none⟩)), (8, .slice Al 2 cl), (10, .int .i64 2)]) (hX : Blk w2 gX 28 #[.int .u8 (o.toNat : Int), .int .u8 (k.toNat : Int), .int .i64 n, .string s, .string nm, .string of, .int .i64 N, .slice A m c]) (hZ : Blk w2 gR 25 #[.int .u8 0, .int .i64 0, .string ⟨#[]⟩]) (hR : w.heap.size ≤ gR) (hB : Below w.heap.size w w2) (hl : Rv w2 w2.heap.size Al 2 l)
    (h : ∀ a' w' p, Fr 178 a' [(6, .pointer (some ⟨gR, 0, none⟩)), (7, .int .i64 (p.2 : Int))] → Fin w gR p w' → p = Ev.opn o l → Q .ret a' w') : (rv 5).wp Tryz.prog Q a w2 := by
  conv => arg 2; whnf
  obtain ⟨f, rfl, ⟨s3, s6, s8, s10, _⟩, hfr⟩ := hF.open178
  rw [hfr] at s3 s6 s8 s10
  rw [s3, s6, s8, s10]
  clear hF hfr s3 s6 s8 s10
  have H := hide h
  have HB := hide hB
  have HZ := hide hZ
  have HL := hide hl
  have x0 := hX.cell 0
  have x1 := hX.cell 1
  have x2 := hX.cell 2
  have x3 := hX.cell 3
  have x4 := hX.cell 4
  have x5 := hX.cell 5
  have x6 := hX.cell 6
  have x7 := hX.cell 7
  simp at x0 x1 x2 x3 x4 x5 x6 x7
  have hlen := hl.len
  clear h hB hZ hl hX
  have t3 : ((o.toNat : Int) == 3) = false := by simp; omega
  have t4 : ((o.toNat : Int) == 4) = false := by simp; omega
  have t5 : ((o.toNat : Int) == 5) = true := by simp; omega
  obtain ⟨b, off, k1, n1, s1, rfl, hbl, hl0, c0, c1, c2, hok⟩ := HL.out.at (k := 0) (by omega)
  obtain ⟨b2, off2, k2, n2, s2, e, hbl2, hl1, d0, d1, d2, hok2⟩ := HL.out.at (k := 1) (by omega)
  injection e with e
  injection e with e1 e2
  subst e1 e2
  rw [Nat.zero_mul, Nat.add_zero] at c0 c1 c2
  rw [Nat.one_mul] at d0 d1 d2
  obtain ⟨h1n, h1m⟩ := hok.2
  obtain ⟨h2n, h2m⟩ := hok2.2
  obtain rfl : l = [⟨k1, n1, s1⟩, ⟨k2, n2, s2⟩] := by
    match l, hlen, hl0, hl1 with
    | [v, u], _, h, h' => injection h with h; injection h' with h'; rw [h, h']
  clear hl0 hl1 hlen hok hok2
  simp only at h1n h1m h2n h2m
  obtain ⟨⟨⟨pk, pn, ps⟩, pe⟩, hp⟩ : ∃ p, p = Val.sub ⟨k1, n1, s1⟩ ⟨k2, n2, s2⟩ := ⟨_, rfl⟩
  have HP : Hid ((⟨pk, pn, ps⟩, pe) = Ev.opn o [⟨k1, n1, s1⟩, ⟨k2, n2, s2⟩]) := by show _ = _; rw [hp, Ev.o_eq ho]; rfl
  have HQ := hide hp
  clear hp ho
  go_upto_region 12 with fail
  have hTs := tab_stable (l := [(6, NoF)]) (fun p hp => by
      simp only [List.mem_cons, List.not_mem_nil, or_false] at hp
      subst hp
      exact NoF.stable)
  have hSs := shp_some (l := [(6, IsV (.tuple #[.agg #[.int .u8 (pk.toNat : Int), .int .i64 pn, .string ps], .int .i64 (pe : Int)]))]) (fun p hp => by
      simp only [List.mem_cons, List.not_mem_nil, or_false] at hp
      subst hp
      exact IsV.some _)
  have HTs := hide hTs
  have HSs := hide hSs
  clear hTs hSs
  refine wp_region_toldL (tab [(6, NoF)]) (Up w2) (w2.heap.size) 9 (shp [(6, IsV (.tuple #[.agg #[.int .u8 (pk.toNat : Int), .int .i64 pn, .string ps], .int .i64 (pe : Int)]))]) (HSs.out) (HTs.out) (Up.lives _) Gro (Gro.turns (Up.lives _) (HTs.out)) (by kernel_rfl) (by kernel_rfl) (Up.start _) (Nat.le_refl _) ?_
  simp only [List.take_succ_cons, List.take_zero, List.drop_succ_cons, List.drop_zero]
  refine wpTold_read ?_ rfl rfl (fun w' hS => ?_) ?_
  rotate_left
  · go_simp
    rfl
  go_frame
  refine wpTold_read ?_ rfl rfl (fun w' hS => ?_) ?_
  rotate_left
  · go_simp
    rfl
  go_frame
  refine wpTold_read ?_ rfl rfl (fun w' hS => ?_) ?_
  rotate_left
  · have l0 := (hS.cell (p := ⟨b, off, none⟩) hbl).trans c0
    have l1 := (hS.cell (p := ⟨b, off + 1, none⟩) hbl).trans c1
    have l2 := (hS.cell (p := ⟨b, off + 2, none⟩) hbl).trans c2
    go_simp
    rfl
  go_frame
  refine wpTold_read ?_ rfl rfl (fun w' hS => ?_) ?_
  rotate_left
  · go_simp
    rfl
  go_frame
  refine wpTold_read ?_ rfl rfl (fun w' hS => ?_) ?_
  rotate_left
  · go_simp
    rfl
  go_frame
  refine wpTold_read ?_ rfl rfl (fun w' hS => ?_) ?_
  rotate_left
  · have l0 := (hS.cell (p := ⟨b, off + 3, none⟩) hbl).trans d0
    have l1 := (hS.cell (p := ⟨b, off + 3 + 1, none⟩) hbl).trans d1
    have l2 := (hS.cell (p := ⟨b, off + 3 + 2, none⟩) hbl).trans d2
    go_simp
    rfl
  go_frame
  refine' wpTold_call _ _ _ rfl rfl (fun w' => ?_) (fun w' hS hh hs => ?_) (fun v6 h6 => ?_)
  rotate_left 2
  · go_simp
    constructor <;> rfl
  · have cc := rSub_any k1 n1 s1 k2 n2 s2 w' h1n h1m h2n h2m
    rw [← HQ.out, ansV_mk] at cc
    refine cc.mono ?_
    rintro e w9 ⟨rfl, hb⟩
    exact ⟨_, rfl, ⟨rfl, trivial⟩, hb⟩
  obtain rfl := h6
  go_frame
  refine wpTold_read ?_ rfl rfl (fun w' hS => ?_) ?_
  rotate_left
  · go_simp
    rfl
  go_frame
  refine wpTold_read ?_ rfl rfl (fun w' hS => ?_) ?_
  rotate_left
  · go_simp
    rfl
  go_frame
  refine wpTold_nil fun w6 hH => ?_
  have hup : Below w2.heap.size w2 w6 := hH.s
  replace HZ := hide (HZ.out.below hup HZ.out.lt)
  replace HB := hide (HB.out.trans (hup.mono HB.out.size))
  clear hH hup c0 c1 c2 d0 d1 d2 x0 x1 x2 x3 x4 x5 x6 x7
  have z0 := HZ.out.cell 0
  have z1 := HZ.out.cell 1
  have z2 := HZ.out.cell 2
  simp at z0 z1 z2
  have f0 := HZ.out.frozen 0
  have f1 := HZ.out.frozen 1
  have f2 := HZ.out.frozen 2
  have HF : Hid (Fin w gR (⟨pk, pn, ps⟩, pe) (((w6.setCell ⟨gR, 0, none⟩ (.int .u8 (pk.toNat : Int))).setCell ⟨gR, 1, none⟩ (.int .i64 pn)).setCell ⟨gR, 2, none⟩ (.string ps))) := ⟨blk3 HZ.out _ _ _, below3 HB.out hR _ _ _⟩
  go_wp2_with fail
  refine H.out _ _ (⟨pk, pn, ps⟩, pe) ?_ HF.out HP.out
  exact ⟨rfl, rfl, rfl, rfl, trivial⟩
set_option linter.unusedVariables false in
set_option maxRecDepth 1000000 in
set_option maxHeartbeats 4000000 in
theorem rv_mul {Q : Exit → Act → World → Prop} {a : Act} (ho : o.toNat = 6) (hF : Fr 178 a [(3, .pointer (some ⟨gX, 0, none⟩)), (6, .pointer (some ⟨gR, 0, none⟩)), (8, .slice Al 2 cl), (10, .int .i64 2)]) (hX : Blk w2 gX 28 #[.int .u8 (o.toNat : Int), .int .u8 (k.toNat : Int), .int .i64 n, .string s, .string nm, .string of, .int .i64 N, .slice A m c]) (hZ : Blk w2 gR 25 #[.int .u8 0, .int .i64 0, .string ⟨#[]⟩]) (hR : w.heap.size ≤ gR) (hB : Below w.heap.size w w2) (hl : Rv w2 w2.heap.size Al 2 l)
    (h : ∀ a' w' p, Fr 178 a' [(6, .pointer (some ⟨gR, 0, none⟩)), (7, .int .i64 (p.2 : Int))] → Fin w gR p w' → p = Ev.opn o l → Q .ret a' w') : (rv 5).wp Tryz.prog Q a w2 := by
  conv => arg 2; whnf
  obtain ⟨f, rfl, ⟨s3, s6, s8, s10, _⟩, hfr⟩ := hF.open178
  rw [hfr] at s3 s6 s8 s10
  rw [s3, s6, s8, s10]
  clear hF hfr s3 s6 s8 s10
  have H := hide h
  have HB := hide hB
  have HZ := hide hZ
  have HL := hide hl
  have x0 := hX.cell 0
  have x1 := hX.cell 1
  have x2 := hX.cell 2
  have x3 := hX.cell 3
  have x4 := hX.cell 4
  have x5 := hX.cell 5
  have x6 := hX.cell 6
  have x7 := hX.cell 7
  simp at x0 x1 x2 x3 x4 x5 x6 x7
  have hlen := hl.len
  clear h hB hZ hl hX
  have t3 : ((o.toNat : Int) == 3) = false := by simp; omega
  have t4 : ((o.toNat : Int) == 4) = false := by simp; omega
  have t5 : ((o.toNat : Int) == 5) = false := by simp; omega
  have t6 : ((o.toNat : Int) == 6) = true := by simp; omega
  obtain ⟨b, off, k1, n1, s1, rfl, hbl, hl0, c0, c1, c2, hok⟩ := HL.out.at (k := 0) (by omega)
  obtain ⟨b2, off2, k2, n2, s2, e, hbl2, hl1, d0, d1, d2, hok2⟩ := HL.out.at (k := 1) (by omega)
  injection e with e
  injection e with e1 e2
  subst e1 e2
  rw [Nat.zero_mul, Nat.add_zero] at c0 c1 c2
  rw [Nat.one_mul] at d0 d1 d2
  obtain ⟨h1n, h1m⟩ := hok.2
  obtain ⟨h2n, h2m⟩ := hok2.2
  obtain rfl : l = [⟨k1, n1, s1⟩, ⟨k2, n2, s2⟩] := by
    match l, hlen, hl0, hl1 with
    | [v, u], _, h, h' => injection h with h; injection h' with h'; rw [h, h']
  clear hl0 hl1 hlen hok hok2
  simp only at h1n h1m h2n h2m
  obtain ⟨⟨⟨pk, pn, ps⟩, pe⟩, hp⟩ : ∃ p, p = Val.mul ⟨k1, n1, s1⟩ ⟨k2, n2, s2⟩ := ⟨_, rfl⟩
  have HP : Hid ((⟨pk, pn, ps⟩, pe) = Ev.opn o [⟨k1, n1, s1⟩, ⟨k2, n2, s2⟩]) := by show _ = _; rw [hp, Ev.o_eq ho]; rfl
  have HQ := hide hp
  clear hp ho
  go_upto_region 14 with fail
  have hTs := tab_stable (l := [(6, NoF)]) (fun p hp => by
      simp only [List.mem_cons, List.not_mem_nil, or_false] at hp
      subst hp
      exact NoF.stable)
  have hSs := shp_some (l := [(6, IsV (.tuple #[.agg #[.int .u8 (pk.toNat : Int), .int .i64 pn, .string ps], .int .i64 (pe : Int)]))]) (fun p hp => by
      simp only [List.mem_cons, List.not_mem_nil, or_false] at hp
      subst hp
      exact IsV.some _)
  have HTs := hide hTs
  have HSs := hide hSs
  clear hTs hSs
  refine wp_region_toldL (tab [(6, NoF)]) (Up w2) (w2.heap.size) 9 (shp [(6, IsV (.tuple #[.agg #[.int .u8 (pk.toNat : Int), .int .i64 pn, .string ps], .int .i64 (pe : Int)]))]) (HSs.out) (HTs.out) (Up.lives _) Gro (Gro.turns (Up.lives _) (HTs.out)) (by kernel_rfl) (by kernel_rfl) (Up.start _) (Nat.le_refl _) ?_
  simp only [List.take_succ_cons, List.take_zero, List.drop_succ_cons, List.drop_zero]
  refine wpTold_read ?_ rfl rfl (fun w' hS => ?_) ?_
  rotate_left
  · go_simp
    rfl
  go_frame
  refine wpTold_read ?_ rfl rfl (fun w' hS => ?_) ?_
  rotate_left
  · go_simp
    rfl
  go_frame
  refine wpTold_read ?_ rfl rfl (fun w' hS => ?_) ?_
  rotate_left
  · have l0 := (hS.cell (p := ⟨b, off, none⟩) hbl).trans c0
    have l1 := (hS.cell (p := ⟨b, off + 1, none⟩) hbl).trans c1
    have l2 := (hS.cell (p := ⟨b, off + 2, none⟩) hbl).trans c2
    go_simp
    rfl
  go_frame
  refine wpTold_read ?_ rfl rfl (fun w' hS => ?_) ?_
  rotate_left
  · go_simp
    rfl
  go_frame
  refine wpTold_read ?_ rfl rfl (fun w' hS => ?_) ?_
  rotate_left
  · go_simp
    rfl
  go_frame
  refine wpTold_read ?_ rfl rfl (fun w' hS => ?_) ?_
  rotate_left
  · have l0 := (hS.cell (p := ⟨b, off + 3, none⟩) hbl).trans d0
    have l1 := (hS.cell (p := ⟨b, off + 3 + 1, none⟩) hbl).trans d1
    have l2 := (hS.cell (p := ⟨b, off + 3 + 2, none⟩) hbl).trans d2
    go_simp
    rfl
  go_frame
  refine' wpTold_call _ _ _ rfl rfl (fun w' => ?_) (fun w' hS hh hs => ?_) (fun v6 h6 => ?_)
  rotate_left 2
  · go_simp
    constructor <;> rfl
  · have cc := rMul_any k1 n1 s1 k2 n2 s2 w' h1n h1m h2n h2m
    rw [← HQ.out, ansV_mk] at cc
    refine cc.mono ?_
    rintro e w9 ⟨rfl, hb⟩
    exact ⟨_, rfl, ⟨rfl, trivial⟩, hb⟩
  obtain rfl := h6
  go_frame
  refine wpTold_read ?_ rfl rfl (fun w' hS => ?_) ?_
  rotate_left
  · go_simp
    rfl
  go_frame
  refine wpTold_read ?_ rfl rfl (fun w' hS => ?_) ?_
  rotate_left
  · go_simp
    rfl
  go_frame
  refine wpTold_nil fun w6 hH => ?_
  have hup : Below w2.heap.size w2 w6 := hH.s
  replace HZ := hide (HZ.out.below hup HZ.out.lt)
  replace HB := hide (HB.out.trans (hup.mono HB.out.size))
  clear hH hup c0 c1 c2 d0 d1 d2 x0 x1 x2 x3 x4 x5 x6 x7
  have z0 := HZ.out.cell 0
  have z1 := HZ.out.cell 1
  have z2 := HZ.out.cell 2
  simp at z0 z1 z2
  have f0 := HZ.out.frozen 0
  have f1 := HZ.out.frozen 1
  have f2 := HZ.out.frozen 2
  have HF : Hid (Fin w gR (⟨pk, pn, ps⟩, pe) (((w6.setCell ⟨gR, 0, none⟩ (.int .u8 (pk.toNat : Int))).setCell ⟨gR, 1, none⟩ (.int .i64 pn)).setCell ⟨gR, 2, none⟩ (.string ps))) := ⟨blk3 HZ.out _ _ _, below3 HB.out hR _ _ _⟩
  go_wp2_with fail
  refine H.out _ _ (⟨pk, pn, ps⟩, pe) ?_ HF.out HP.out
  exact ⟨rfl, rfl, rfl, rfl, trivial⟩
theorem opn_cmp (h7 : 7 ≤ o.toNat) (h12 : o.toNat ≤ 12) (x y : Cell.Val) : Ev.opn o [x, y] = Ev.cmp2 o.toNat x y := by
  have : o.toNat = 7 ∨ o.toNat = 8 ∨ o.toNat = 9 ∨ o.toNat = 10 ∨ o.toNat = 11 ∨ o.toNat = 12 := by omega
  rcases this with h | h | h | h | h | h <;> rw [Ev.o_eq h] <;> rfl
set_option linter.unusedVariables false in
set_option maxRecDepth 1000000 in
set_option maxHeartbeats 4000000 in
theorem rv_cmp {Q : Exit → Act → World → Prop} {a : Act} (h7 : 7 ≤ o.toNat) (h12 : o.toNat ≤ 12) (hF : Fr 178 a [(3, .pointer (some ⟨gX, 0, none⟩)), (6, .pointer (some ⟨gR, 0, none⟩)), (8, .slice Al 2 cl), (10, .int .i64 2)]) (hX : Blk w2 gX 28 #[.int .u8 (o.toNat : Int), .int .u8 (k.toNat : Int), .int .i64 n, .string s, .string nm, .string of, .int .i64 N, .slice A m c]) (hZ : Blk w2 gR 25 #[.int .u8 0, .int .i64 0, .string ⟨#[]⟩]) (hR : w.heap.size ≤ gR) (hB : Below w.heap.size w w2) (hl : Rv w2 w2.heap.size Al 2 l)
    (h : ∀ a' w' p, Fr 178 a' [(6, .pointer (some ⟨gR, 0, none⟩)), (7, .int .i64 (p.2 : Int))] → Fin w gR p w' → p = Ev.opn o l → Q .ret a' w') : (rv 5).wp Tryz.prog Q a w2 := by
  conv => arg 2; whnf
  obtain ⟨f, rfl, ⟨s3, s6, s8, s10, _⟩, hfr⟩ := hF.open178
  rw [hfr] at s3 s6 s8 s10
  rw [s3, s6, s8, s10]
  clear hF hfr s3 s6 s8 s10
  have H := hide h
  have HB := hide hB
  have HZ := hide hZ
  have HL := hide hl
  have x0 := hX.cell 0
  have x1 := hX.cell 1
  have x2 := hX.cell 2
  have x3 := hX.cell 3
  have x4 := hX.cell 4
  have x5 := hX.cell 5
  have x6 := hX.cell 6
  have x7 := hX.cell 7
  simp at x0 x1 x2 x3 x4 x5 x6 x7
  have hlen := hl.len
  have HXlt := hX.lt
  clear h hB hZ hl hX
  have HXl := hide (show gX < w2.heap.size from HXlt)
  have t3 : ((o.toNat : Int) == 3) = false := by simp; omega
  have t4 : ((o.toNat : Int) == 4) = false := by simp; omega
  have t5 : ((o.toNat : Int) == 5) = false := by simp; omega
  have t6 : ((o.toNat : Int) == 6) = false := by simp; omega
  have t7 : decide ((7 : Int) ≤ (o.toNat : Int)) = true := decide_eq_true (by omega)
  have t12 : decide ((o.toNat : Int) ≤ 12) = true := decide_eq_true (by omega)
  obtain ⟨b, off, k1, n1, s1, rfl, hbl, hl0, c0, c1, c2, hok⟩ := HL.out.at (k := 0) (by omega)
  obtain ⟨b2, off2, k2, n2, s2, e, hbl2, hl1, d0, d1, d2, hok2⟩ := HL.out.at (k := 1) (by omega)
  injection e with e
  injection e with e1 e2
  subst e1 e2
  rw [Nat.zero_mul, Nat.add_zero] at c0 c1 c2
  rw [Nat.one_mul] at d0 d1 d2
  obtain ⟨h1n, h1m⟩ := hok.2
  obtain ⟨h2n, h2m⟩ := hok2.2
  obtain rfl : l = [⟨k1, n1, s1⟩, ⟨k2, n2, s2⟩] := by
    match l, hlen, hl0, hl1 with
    | [v, u], _, h, h' => injection h with h; injection h' with h'; rw [h, h']
  clear hl0 hl1 hlen hok hok2
  simp only at h1n h1m h2n h2m
  obtain ⟨⟨pt, pe⟩, hp⟩ : ∃ p, p = Val.compare o.toNat ⟨k1, n1, s1⟩ ⟨k2, n2, s2⟩ := ⟨_, rfl⟩
  have HO : Hid (Ev.opn o [⟨k1, n1, s1⟩, ⟨k2, n2, s2⟩] = Ev.cmp2 o.toNat ⟨k1, n1, s1⟩ ⟨k2, n2, s2⟩) := opn_cmp h7 h12 _ _
  have HQ := hide hp
  clear hp h7 h12
  go_upto_region 16 with fail
  have hTs := tab_stable (l := [(8, NoF)]) (fun p hp => by
      simp only [List.mem_cons, List.not_mem_nil, or_false] at hp
      subst hp
      exact NoF.stable)
  have hSs := shp_some (l := [(8, IsV (.tuple #[.int .u8 (pt : Int), .int .i64 (pe : Int)]))]) (fun p hp => by
      simp only [List.mem_cons, List.not_mem_nil, or_false] at hp
      subst hp
      exact IsV.some _)
  have HTs := hide hTs
  have HSs := hide hSs
  clear hTs hSs
  refine wp_region_toldL (tab [(8, NoF)]) (Up w2) (w2.heap.size) 14 (shp [(8, IsV (.tuple #[.int .u8 (pt : Int), .int .i64 (pe : Int)]))]) (HSs.out) (HTs.out) (Up.lives _) Gro (Gro.turns (Up.lives _) (HTs.out)) (by kernel_rfl) (by kernel_rfl) (Up.start _) (Nat.le_refl _) ?_
  simp only [List.take_succ_cons, List.take_zero, List.drop_succ_cons, List.drop_zero]
  refine wpTold_read ?_ rfl rfl (fun w' hS => ?_) ?_
  rotate_left
  · go_simp
    rfl
  go_frame
  refine wpTold_read ?_ rfl rfl (fun w' hS => ?_) ?_
  rotate_left
  · have l0 := (hS.cell (p := ⟨gX, 0, none⟩) HXl.out).trans x0
    go_simp
    rfl
  go_frame
  refine wpTold_read ?_ rfl rfl (fun w' hS => ?_) ?_
  rotate_left
  · go_simp
    rfl
  go_frame
  refine wpTold_read ?_ rfl rfl (fun w' hS => ?_) ?_
  rotate_left
  · go_simp
    rfl
  go_frame
  refine wpTold_read ?_ rfl rfl (fun w' hS => ?_) ?_
  rotate_left
  · have l0 := (hS.cell (p := ⟨b, off, none⟩) hbl).trans c0
    have l1 := (hS.cell (p := ⟨b, off + 1, none⟩) hbl).trans c1
    have l2 := (hS.cell (p := ⟨b, off + 2, none⟩) hbl).trans c2
    go_simp
    rfl
  go_frame
  refine wpTold_read ?_ rfl rfl (fun w' hS => ?_) ?_
  rotate_left
  · go_simp
    rfl
  go_frame
  refine wpTold_read ?_ rfl rfl (fun w' hS => ?_) ?_
  rotate_left
  · go_simp
    rfl
  go_frame
  refine wpTold_read ?_ rfl rfl (fun w' hS => ?_) ?_
  rotate_left
  · have l0 := (hS.cell (p := ⟨b, off + 3, none⟩) hbl).trans d0
    have l1 := (hS.cell (p := ⟨b, off + 3 + 1, none⟩) hbl).trans d1
    have l2 := (hS.cell (p := ⟨b, off + 3 + 2, none⟩) hbl).trans d2
    go_simp
    rfl
  go_frame
  refine' wpTold_call _ _ _ rfl rfl (fun w' => ?_) (fun w' hS hh hs => ?_) (fun v8 h8 => ?_)
  rotate_left 2
  · go_simp
    constructor <;> rfl
  · have cc := rCompare_any o.toNat k1 n1 s1 k2 n2 s2 w' h1n h1m h2n h2m
    rw [← HQ.out] at cc
    unfold truV at cc
    refine cc.mono ?_
    rintro e w9 ⟨rfl, hb⟩
    exact ⟨_, rfl, ⟨rfl, trivial⟩, hb⟩
  obtain rfl := h8
  go_frame
  refine wpTold_read ?_ rfl rfl (fun w' hS => ?_) ?_
  rotate_left
  · go_simp
    rfl
  go_frame
  refine wpTold_read ?_ rfl rfl (fun w' hS => ?_) ?_
  rotate_left
  · go_simp
    rfl
  go_frame
  refine wpTold_read ?_ rfl rfl (fun w' hS => ?_) ?_
  rotate_left
  · go_simp
    rfl
  go_frame
  refine wpTold_read ?_ rfl rfl (fun w' hS => ?_) ?_
  rotate_left
  · go_simp
    rfl
  go_frame
  refine wpTold_read ?_ rfl rfl (fun w' hS => ?_) ?_
  rotate_left
  · go_simp
    rfl
  go_frame
  refine wpTold_nil fun w6 hH => ?_
  have hup : Below w2.heap.size w2 w6 := hH.s
  replace HZ := hide (HZ.out.below hup HZ.out.lt)
  replace HB := hide (HB.out.trans (hup.mono HB.out.size))
  clear hH hup c0 c1 c2 d0 d1 d2 x0 x1 x2 x3 x4 x5 x6 x7
  by_cases he : pe = 0
  · subst he
    have HP : Hid ((Lg.of_ pt, 0) = Ev.opn o [⟨k1, n1, s1⟩, ⟨k2, n2, s2⟩]) := by
      show _ = _
      rw [HO.out]
      unfold Ev.cmp2
      rw [← HQ.out, if_neg (by simp)]
    obtain ⟨⟨pk, pn, ps⟩, hq⟩ : ∃ p, p = Lg.of_ pt := ⟨_, rfl⟩
    have HR := hide hq
    clear hq
    go_wp2_with fail
    have cc := rOf_any pt w6
    rw [← HR.out] at cc
    unfold valV at cc
    with_reducible refine cc.mono ?_
    clear cc
    rintro e w7 ⟨rfl, hb⟩
    rw [← HR.out] at HP
    replace HZ := hide (HZ.out.below hb HZ.out.lt)
    replace HB := hide (HB.out.trans (hb.mono HB.out.size))
    clear hb
    have z0 := HZ.out.cell 0
    have z1 := HZ.out.cell 1
    have z2 := HZ.out.cell 2
    simp at z0 z1 z2
    have f0 := HZ.out.frozen 0
    have f1 := HZ.out.frozen 1
    have f2 := HZ.out.frozen 2
    have HF : Hid (Fin w gR (⟨pk, pn, ps⟩, 0) (((w7.setCell ⟨gR, 0, none⟩ (.int .u8 (pk.toNat : Int))).setCell ⟨gR, 1, none⟩ (.int .i64 pn)).setCell ⟨gR, 2, none⟩ (.string ps))) := ⟨blk3 HZ.out _ _ _, below3 HB.out hR _ _ _⟩
    go_wp2_with fail
    refine H.out _ _ (⟨pk, pn, ps⟩, 0) ?_ HF.out HP.out
    exact ⟨rfl, rfl, rfl, rfl, trivial⟩
  · have te : ((pe : Int) != 0) = true := by simp; omega
    have HP : Hid ((Val.vz, pe) = Ev.opn o [⟨k1, n1, s1⟩, ⟨k2, n2, s2⟩]) := by
      show _ = _
      rw [HO.out]
      unfold Ev.cmp2
      rw [← HQ.out, if_pos he]
    clear he
    have z0 := HZ.out.cell 0
    have z1 := HZ.out.cell 1
    have z2 := HZ.out.cell 2
    simp at z0 z1 z2
    have f0 := HZ.out.frozen 0
    have f1 := HZ.out.frozen 1
    have f2 := HZ.out.frozen 2
    have HF : Hid (Fin w gR (Val.vz, pe) (((w6.setCell ⟨gR, 0, none⟩ (.int .u8 0)).setCell ⟨gR, 1, none⟩ (.int .i64 0)).setCell ⟨gR, 2, none⟩ (.string ⟨#[]⟩))) := ⟨blk3 HZ.out _ _ _, below3 HB.out hR _ _ _⟩
    go_wp2_with fail
    refine H.out _ _ (Val.vz, pe) ?_ HF.out HP.out
    exact ⟨rfl, rfl, rfl, rfl, trivial⟩
set_option linter.unusedVariables false in
set_option maxRecDepth 1000000 in
set_option maxHeartbeats 4000000 in
theorem rv_and {Q : Exit → Act → World → Prop} {a : Act} (ho : o.toNat = 13) (hF : Fr 178 a [(3, .pointer (some ⟨gX, 0, none⟩)), (6, .pointer (some ⟨gR, 0, none⟩)), (8, .slice Al 2 cl), (10, .int .i64 2)]) (hX : Blk w2 gX 28 #[.int .u8 (o.toNat : Int), .int .u8 (k.toNat : Int), .int .i64 n, .string s, .string nm, .string of, .int .i64 N, .slice A m c]) (hZ : Blk w2 gR 25 #[.int .u8 0, .int .i64 0, .string ⟨#[]⟩]) (hR : w.heap.size ≤ gR) (hB : Below w.heap.size w w2) (hl : Rv w2 w2.heap.size Al 2 l)
    (h : ∀ a' w' p, Fr 178 a' [(6, .pointer (some ⟨gR, 0, none⟩)), (7, .int .i64 (p.2 : Int))] → Fin w gR p w' → p = Ev.opn o l → Q .ret a' w') : (rv 5).wp Tryz.prog Q a w2 := by
  conv => arg 2; whnf
  obtain ⟨f, rfl, ⟨s3, s6, s8, s10, _⟩, hfr⟩ := hF.open178
  rw [hfr] at s3 s6 s8 s10
  rw [s3, s6, s8, s10]
  clear hF hfr s3 s6 s8 s10
  have H := hide h
  have HB := hide hB
  have HZ := hide hZ
  have HL := hide hl
  have x0 := hX.cell 0
  have x1 := hX.cell 1
  have x2 := hX.cell 2
  have x3 := hX.cell 3
  have x4 := hX.cell 4
  have x5 := hX.cell 5
  have x6 := hX.cell 6
  have x7 := hX.cell 7
  simp at x0 x1 x2 x3 x4 x5 x6 x7
  have hlen := hl.len
  clear h hB hZ hl hX
  have t3 : ((o.toNat : Int) == 3) = false := by simp; omega
  have t4 : ((o.toNat : Int) == 4) = false := by simp; omega
  have t5 : ((o.toNat : Int) == 5) = false := by simp; omega
  have t6 : ((o.toNat : Int) == 6) = false := by simp; omega
  have t7 : decide ((7 : Int) ≤ (o.toNat : Int)) = true := decide_eq_true (by omega)
  have t12 : decide ((o.toNat : Int) ≤ 12) = false := decide_eq_false (by omega)
  have t13 : ((o.toNat : Int) == 13) = true := by simp; omega
  have t14 : ((o.toNat : Int) == 14) = false := by simp; omega
  have t15 : ((o.toNat : Int) == 15) = false := by simp; omega
  have t16 : ((o.toNat : Int) == 16) = false := by simp; omega
  obtain ⟨⟨⟨pk, pn, ps⟩, pe⟩, hp⟩ : ∃ p, p = Ev.lgn Ev.g_and l := ⟨_, rfl⟩
  have HP : Hid ((⟨pk, pn, ps⟩, pe) = Ev.opn o l) := by
    show _ = _
    obtain ⟨x, y, rfl⟩ : ∃ x y, l = [x, y] := by
      match l, hlen with
      | [x, y], _ => exact ⟨_, _, rfl⟩
    rw [hp, Ev.o_eq ho]
    exact Ev.lgn_two Lg.and_ x y
  have HQ := hide hp
  have HO := hide ho
  clear hp ho hlen
  go_wp2_with fail
  have cc := rlogic_and o Al cl l w2 HO.out HL.out
  rw [← HQ.out, ansV_mk] at cc
  with_reducible refine cc.mono ?_
  clear cc
  rintro e w3 ⟨rfl, hb⟩
  replace HZ := hide (HZ.out.below hb HZ.out.lt)
  replace HB := hide (HB.out.trans (hb.mono HB.out.size))
  clear hb x0 x1 x2 x3 x4 x5 x6 x7
  have z0 := HZ.out.cell 0
  have z1 := HZ.out.cell 1
  have z2 := HZ.out.cell 2
  simp at z0 z1 z2
  have f0 := HZ.out.frozen 0
  have f1 := HZ.out.frozen 1
  have f2 := HZ.out.frozen 2
  have HF : Hid (Fin w gR (⟨pk, pn, ps⟩, pe) (((w3.setCell ⟨gR, 0, none⟩ (.int .u8 (pk.toNat : Int))).setCell ⟨gR, 1, none⟩ (.int .i64 pn)).setCell ⟨gR, 2, none⟩ (.string ps))) := ⟨blk3 HZ.out _ _ _, below3 HB.out hR _ _ _⟩
  go_wp2_with fail
  refine H.out _ _ (⟨pk, pn, ps⟩, pe) ?_ HF.out HP.out
  exact ⟨rfl, rfl, rfl, rfl, trivial⟩
set_option linter.unusedVariables false in
set_option maxRecDepth 1000000 in
set_option maxHeartbeats 4000000 in
theorem rv_or {Q : Exit → Act → World → Prop} {a : Act} (ho : o.toNat = 14) (hF : Fr 178 a [(3, .pointer (some ⟨gX, 0, none⟩)), (6, .pointer (some ⟨gR, 0, none⟩)), (8, .slice Al 2 cl), (10, .int .i64 2)]) (hX : Blk w2 gX 28 #[.int .u8 (o.toNat : Int), .int .u8 (k.toNat : Int), .int .i64 n, .string s, .string nm, .string of, .int .i64 N, .slice A m c]) (hZ : Blk w2 gR 25 #[.int .u8 0, .int .i64 0, .string ⟨#[]⟩]) (hR : w.heap.size ≤ gR) (hB : Below w.heap.size w w2) (hl : Rv w2 w2.heap.size Al 2 l)
    (h : ∀ a' w' p, Fr 178 a' [(6, .pointer (some ⟨gR, 0, none⟩)), (7, .int .i64 (p.2 : Int))] → Fin w gR p w' → p = Ev.opn o l → Q .ret a' w') : (rv 5).wp Tryz.prog Q a w2 := by
  conv => arg 2; whnf
  obtain ⟨f, rfl, ⟨s3, s6, s8, s10, _⟩, hfr⟩ := hF.open178
  rw [hfr] at s3 s6 s8 s10
  rw [s3, s6, s8, s10]
  clear hF hfr s3 s6 s8 s10
  have H := hide h
  have HB := hide hB
  have HZ := hide hZ
  have HL := hide hl
  have x0 := hX.cell 0
  have x1 := hX.cell 1
  have x2 := hX.cell 2
  have x3 := hX.cell 3
  have x4 := hX.cell 4
  have x5 := hX.cell 5
  have x6 := hX.cell 6
  have x7 := hX.cell 7
  simp at x0 x1 x2 x3 x4 x5 x6 x7
  have hlen := hl.len
  clear h hB hZ hl hX
  have t3 : ((o.toNat : Int) == 3) = false := by simp; omega
  have t4 : ((o.toNat : Int) == 4) = false := by simp; omega
  have t5 : ((o.toNat : Int) == 5) = false := by simp; omega
  have t6 : ((o.toNat : Int) == 6) = false := by simp; omega
  have t7 : decide ((7 : Int) ≤ (o.toNat : Int)) = true := decide_eq_true (by omega)
  have t12 : decide ((o.toNat : Int) ≤ 12) = false := decide_eq_false (by omega)
  have t13 : ((o.toNat : Int) == 13) = false := by simp; omega
  have t14 : ((o.toNat : Int) == 14) = true := by simp; omega
  have t15 : ((o.toNat : Int) == 15) = false := by simp; omega
  have t16 : ((o.toNat : Int) == 16) = false := by simp; omega
  obtain ⟨⟨⟨pk, pn, ps⟩, pe⟩, hp⟩ : ∃ p, p = Ev.lgn Ev.g_or l := ⟨_, rfl⟩
  have HP : Hid ((⟨pk, pn, ps⟩, pe) = Ev.opn o l) := by
    show _ = _
    obtain ⟨x, y, rfl⟩ : ∃ x y, l = [x, y] := by
      match l, hlen with
      | [x, y], _ => exact ⟨_, _, rfl⟩
    rw [hp, Ev.o_eq ho]
    exact Ev.lgn_two Lg.or_ x y
  have HQ := hide hp
  have HO := hide ho
  clear hp ho hlen
  go_wp2_with fail
  have cc := rlogic_or o Al cl l w2 HO.out HL.out
  rw [← HQ.out, ansV_mk] at cc
  with_reducible refine cc.mono ?_
  clear cc
  rintro e w3 ⟨rfl, hb⟩
  replace HZ := hide (HZ.out.below hb HZ.out.lt)
  replace HB := hide (HB.out.trans (hb.mono HB.out.size))
  clear hb x0 x1 x2 x3 x4 x5 x6 x7
  have z0 := HZ.out.cell 0
  have z1 := HZ.out.cell 1
  have z2 := HZ.out.cell 2
  simp at z0 z1 z2
  have f0 := HZ.out.frozen 0
  have f1 := HZ.out.frozen 1
  have f2 := HZ.out.frozen 2
  have HF : Hid (Fin w gR (⟨pk, pn, ps⟩, pe) (((w3.setCell ⟨gR, 0, none⟩ (.int .u8 (pk.toNat : Int))).setCell ⟨gR, 1, none⟩ (.int .i64 pn)).setCell ⟨gR, 2, none⟩ (.string ps))) := ⟨blk3 HZ.out _ _ _, below3 HB.out hR _ _ _⟩
  go_wp2_with fail
  refine H.out _ _ (⟨pk, pn, ps⟩, pe) ?_ HF.out HP.out
  exact ⟨rfl, rfl, rfl, rfl, trivial⟩
set_option linter.unusedVariables false in
set_option maxRecDepth 1000000 in
set_option maxHeartbeats 4000000 in
theorem rv_not {Q : Exit → Act → World → Prop} {a : Act} (ho : o.toNat = 15) (hF : Fr 178 a [(3, .pointer (some ⟨gX, 0, none⟩)), (6, .pointer (some ⟨gR, 0, none⟩)), (8, .slice Al 1 cl), (10, .int .i64 1)]) (hX : Blk w2 gX 28 #[.int .u8 (o.toNat : Int), .int .u8 (k.toNat : Int), .int .i64 n, .string s, .string nm, .string of, .int .i64 N, .slice A m c]) (hZ : Blk w2 gR 25 #[.int .u8 0, .int .i64 0, .string ⟨#[]⟩]) (hR : w.heap.size ≤ gR) (hB : Below w.heap.size w w2) (hl : Rv w2 w2.heap.size Al 1 l)
    (h : ∀ a' w' p, Fr 178 a' [(6, .pointer (some ⟨gR, 0, none⟩)), (7, .int .i64 (p.2 : Int))] → Fin w gR p w' → p = Ev.opn o l → Q .ret a' w') : (rv 5).wp Tryz.prog Q a w2 := by
  conv => arg 2; whnf
  obtain ⟨f, rfl, ⟨s3, s6, s8, s10, _⟩, hfr⟩ := hF.open178
  rw [hfr] at s3 s6 s8 s10
  rw [s3, s6, s8, s10]
  clear hF hfr s3 s6 s8 s10
  have H := hide h
  have HB := hide hB
  have HZ := hide hZ
  have HL := hide hl
  have x0 := hX.cell 0
  have x1 := hX.cell 1
  have x2 := hX.cell 2
  have x3 := hX.cell 3
  have x4 := hX.cell 4
  have x5 := hX.cell 5
  have x6 := hX.cell 6
  have x7 := hX.cell 7
  simp at x0 x1 x2 x3 x4 x5 x6 x7
  have hlen := hl.len
  clear h hB hZ hl hX
  have t3 : ((o.toNat : Int) == 3) = false := by simp; omega
  have t4 : ((o.toNat : Int) == 4) = false := by simp; omega
  have t5 : ((o.toNat : Int) == 5) = false := by simp; omega
  have t6 : ((o.toNat : Int) == 6) = false := by simp; omega
  have t7 : decide ((7 : Int) ≤ (o.toNat : Int)) = true := decide_eq_true (by omega)
  have t12 : decide ((o.toNat : Int) ≤ 12) = false := decide_eq_false (by omega)
  have t13 : ((o.toNat : Int) == 13) = false := by simp; omega
  have t14 : ((o.toNat : Int) == 14) = false := by simp; omega
  have t15 : ((o.toNat : Int) == 15) = true := by simp; omega
  have t16 : ((o.toNat : Int) == 16) = false := by simp; omega
  obtain ⟨⟨⟨pk, pn, ps⟩, pe⟩, hp⟩ : ∃ p, p = Ev.lgn Ev.g_not l := ⟨_, rfl⟩
  have HP : Hid ((⟨pk, pn, ps⟩, pe) = Ev.opn o l) := by
    show _ = _
    obtain ⟨x, rfl⟩ : ∃ x, l = [x] := by
      match l, hlen with
      | [x], _ => exact ⟨_, rfl⟩
    rw [hp, Ev.o_eq ho]
    exact Ev.lgn_one Lg.not_ x
  have HQ := hide hp
  have HO := hide ho
  clear hp ho hlen
  go_wp2_with fail
  have cc := rlogic_not o Al cl l w2 HO.out HL.out
  rw [← HQ.out, ansV_mk] at cc
  with_reducible refine cc.mono ?_
  clear cc
  rintro e w3 ⟨rfl, hb⟩
  replace HZ := hide (HZ.out.below hb HZ.out.lt)
  replace HB := hide (HB.out.trans (hb.mono HB.out.size))
  clear hb x0 x1 x2 x3 x4 x5 x6 x7
  have z0 := HZ.out.cell 0
  have z1 := HZ.out.cell 1
  have z2 := HZ.out.cell 2
  simp at z0 z1 z2
  have f0 := HZ.out.frozen 0
  have f1 := HZ.out.frozen 1
  have f2 := HZ.out.frozen 2
  have HF : Hid (Fin w gR (⟨pk, pn, ps⟩, pe) (((w3.setCell ⟨gR, 0, none⟩ (.int .u8 (pk.toNat : Int))).setCell ⟨gR, 1, none⟩ (.int .i64 pn)).setCell ⟨gR, 2, none⟩ (.string ps))) := ⟨blk3 HZ.out _ _ _, below3 HB.out hR _ _ _⟩
  go_wp2_with fail
  refine H.out _ _ (⟨pk, pn, ps⟩, pe) ?_ HF.out HP.out
  exact ⟨rfl, rfl, rfl, rfl, trivial⟩
end
end Go.Proofs.YticljmgcgjibpaaGreatDoor
