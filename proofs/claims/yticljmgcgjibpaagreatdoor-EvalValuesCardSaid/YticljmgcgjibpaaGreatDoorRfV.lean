/-
  Frames of more sizes, laid open. Conditions: none. No program is named here.
-/
import Derived.Test.YticljmgcgjibpaaGreatDoorPieces
import Derived.Test.YticljmgcgjibpaaGreatDoorRfF
namespace Go.Proofs.YticljmgcgjibpaaGreatDoor
open Go Go.RowKit

set_option maxRecDepth 1000000 in
theorem Fr.open178 {a : Act} {l : List (Nat × Value)} (h : Fr 178 a l) : ∃ f : Nat → Value, a = ⟨#[f 0, f 1, f 2, f 3, f 4, f 5, f 6, f 7, f 8, f 9, f 10, f 11, f 12, f 13, f 14, f 15, f 16, f 17, f 18, f 19, f 20, f 21, f 22, f 23, f 24, f 25, f 26, f 27, f 28, f 29, f 30, f 31, f 32, f 33, f 34, f 35, f 36, f 37, f 38, f 39, f 40, f 41, f 42, f 43, f 44, f 45, f 46, f 47, f 48, f 49, f 50, f 51, f 52, f 53, f 54, f 55, f 56, f 57, f 58, f 59, f 60, f 61, f 62, f 63, f 64, f 65, f 66, f 67, f 68, f 69, f 70, f 71, f 72, f 73, f 74, f 75, f 76, f 77, f 78, f 79, f 80, f 81, f 82, f 83, f 84, f 85, f 86, f 87, f 88, f 89, f 90, f 91, f 92, f 93, f 94, f 95, f 96, f 97, f 98, f 99, f 100, f 101, f 102, f 103, f 104, f 105, f 106, f 107, f 108, f 109, f 110, f 111, f 112, f 113, f 114, f 115, f 116, f 117, f 118, f 119, f 120, f 121, f 122, f 123, f 124, f 125, f 126, f 127, f 128, f 129, f 130, f 131, f 132, f 133, f 134, f 135, f 136, f 137, f 138, f 139, f 140, f 141, f 142, f 143, f 144, f 145, f 146, f 147, f 148, f 149, f 150, f 151, f 152, f 153, f 154, f 155, f 156, f 157, f 158, f 159, f 160, f 161, f 162, f 163, f 164, f 165, f 166, f 167, f 168, f 169, f 170, f 171, f 172, f 173, f 174, f 175, f 176, f 177], []⟩ ∧ slots a l ∧ ∀ i, a.tmps.getD i undef = f i := by
  obtain ⟨t, d⟩ := a
  obtain ⟨h1, h2, h3⟩ := h
  simp only at h1 h2
  subst h2
  have e : t = ((List.range 178).map fun i => t.getD i undef).toArray := by
    refine Array.ext (by simp [h1]) fun i h4 h5 => ?_
    simp [h4]
  have e2 : ((List.range 178).map fun i => t.getD i undef).toArray = (fun f : Nat → Value => #[f 0, f 1, f 2, f 3, f 4, f 5, f 6, f 7, f 8, f 9, f 10, f 11, f 12, f 13, f 14, f 15, f 16, f 17, f 18, f 19, f 20, f 21, f 22, f 23, f 24, f 25, f 26, f 27, f 28, f 29, f 30, f 31, f 32, f 33, f 34, f 35, f 36, f 37, f 38, f 39, f 40, f 41, f 42, f 43, f 44, f 45, f 46, f 47, f 48, f 49, f 50, f 51, f 52, f 53, f 54, f 55, f 56, f 57, f 58, f 59, f 60, f 61, f 62, f 63, f 64, f 65, f 66, f 67, f 68, f 69, f 70, f 71, f 72, f 73, f 74, f 75, f 76, f 77, f 78, f 79, f 80, f 81, f 82, f 83, f 84, f 85, f 86, f 87, f 88, f 89, f 90, f 91, f 92, f 93, f 94, f 95, f 96, f 97, f 98, f 99, f 100, f 101, f 102, f 103, f 104, f 105, f 106, f 107, f 108, f 109, f 110, f 111, f 112, f 113, f 114, f 115, f 116, f 117, f 118, f 119, f 120, f 121, f 122, f 123, f 124, f 125, f 126, f 127, f 128, f 129, f 130, f 131, f 132, f 133, f 134, f 135, f 136, f 137, f 138, f 139, f 140, f 141, f 142, f 143, f 144, f 145, f 146, f 147, f 148, f 149, f 150, f 151, f 152, f 153, f 154, f 155, f 156, f 157, f 158, f 159, f 160, f 161, f 162, f 163, f 164, f 165, f 166, f 167, f 168, f 169, f 170, f 171, f 172, f 173, f 174, f 175, f 176, f 177]) fun i => t.getD i undef := by kernel_rfl
  exact ⟨fun i => t.getD i undef, by conv => lhs; rw [e, e2], h3, fun i => rfl⟩
end Go.Proofs.YticljmgcgjibpaaGreatDoor

/-
  The walks of chanceryref24.kids, Value, Is. Conditions: what is read reads as a tree, and as a row.
-/
namespace Go.Proofs.YticljmgcgjibpaaGreatDoor
open Go.RowKit

def RVc (d : Nat) : Prop := ∀ (h : Ev.Hd) (ks : List Ev.Ex) (A : Option Addr) (m c : Nat) (Ar : Option Addr) (nr cr : Nat) (r : List Cell.Val) (role : ByteArray) (w : World), ExK w (· < w.heap.size) d A m ks → HdOk h → Rv w w.heap.size Ar nr r → nr ≤ 9223372036854775807 → role.size ≤ 9223372036854775807 →
  Calls Tryz.prog 8 #[exV h A m c, .slice Ar nr cr, .string role] w fun e w' => e = .returned (ansV ((Ev.Ex.mk h ks).val r role)) ∧ Below w.heap.size w w'
def RKc (d : Nat) : Prop := ∀ (h : Ev.Hd) (ks : List Ev.Ex) (A : Option Addr) (m c : Nat) (Ar : Option Addr) (nr cr : Nat) (r : List Cell.Val) (role : ByteArray) (w : World), ExK w (· < w.heap.size) d A m ks → HdOk h → Rv w w.heap.size Ar nr r → nr ≤ 9223372036854775807 → role.size ≤ 9223372036854775807 →
  Calls Tryz.prog 23 #[exV h A m c, .slice Ar nr cr, .string role] w fun e w' => ∃ A' c', e = .returned (.tuple #[.slice A' (Ev.vals r role ks).1.length c', .int .i64 ((Ev.vals r role ks).2 : Int)]) ∧ Rv w' w'.heap.size A' (Ev.vals r role ks).1.length (Ev.vals r role ks).1 ∧ (Ev.vals r role ks).1.length ≤ m ∧ Below w.heap.size w w'
set_option linter.unusedVariables false in
set_option maxRecDepth 1000000 in
set_option maxHeartbeats 4000000 in
theorem rkids_step (d : Nat) (ih : ∀ d', d = d' + 1 → RVc d') : RKc d := by
  intro h ks A m c Ar nr cr r role w hex hok hr hnr hro
  have HEx := hide hex
  have HIh := hide ih
  have HR := hide hr
  obtain ⟨hml, hmb⟩ := hex.len
  have HMl := hide hml
  clear hex hok hr hml ih
  obtain ⟨o, ⟨k, n, s⟩, nm, of, N⟩ := h
  unfold exV
  simp only
  obtain ⟨w1, hw1⟩ : ∃ w1, w1 = w.alloc (.cells #[.int .u8 (o.toNat : Int), .int .u8 (k.toNat : Int), .int .i64 n, .string s, .string nm, .string of, .int .i64 N, .slice A m c] 28) := ⟨_, rfl⟩
  have HX : Hid (Blk w1 w.heap.size 28 #[.int .u8 (o.toNat : Int), .int .u8 (k.toNat : Int), .int .i64 n, .string s, .string nm, .string of, .int .i64 N, .slice A m c]) := by rw [hw1]; exact Blk.new _ _ _
  have HB : Hid (Below w.heap.size w w1) := by rw [hw1]; exact (Below.refl _ _).alloc (Nat.le_refl _) _
  have hs1 : w.heap.size < w1.heap.size := HX.out.lt
  have x0 := HX.out.cell 0
  have x1 := HX.out.cell 1
  have x2 := HX.out.cell 2
  have x3 := HX.out.cell 3
  have x4 := HX.out.cell 4
  have x5 := HX.out.cell 5
  have x6 := HX.out.cell 6
  have x7 := HX.out.cell 7
  simp at x0 x1 x2 x3 x4 x5 x6 x7
  go_enter Tryz.func23, Tryz.ntmps23
  go_upto_region 1 with fail
  rw [← hw1]
  clear hw1
  go_wp2_with fail
  go_loopg [8, 9] m (fun gg kv iv wr => ∃ (k : Nat) (l : List Cell.Val), k ≤ m ∧ gg = m - k ∧ iv = .int .i64 (k : Nat) ∧ Hid (Ev.vals r role (ks.take k) = (l, 0)) ∧ Hid (∀ v ∈ l, vOk v) ∧ Hid (wr.ownsRow w1.heap.size 25 3 kv l.length (vcells l)) ∧ Below w1.heap.size w1 wr)
  case atStart => exact ⟨0, [], Nat.zero_le _, rfl, rfl, rfl, fun v h => absurd h (by simp), own_nil _ _ _ _, Below.refl _ _⟩
  case round =>
    obtain ⟨j, l, hj, rfl, rfl, HT, HLo, HO, hbel⟩ := hrel
    obtain ⟨w5, hw5⟩ : ∃ w5, w5 = wr := ⟨_, rfl⟩
    subst hw5
    have HB15 := hide hbel
    have HB5 := hide (HB.out.trans (hbel.mono (by omega)))
    have HX5 := hide (HX.out.below hbel hs1)
    have hs5 := hbel.size
    have HR5 := hide (HR.out.next HB5.out)
    clear hbel x0 x1 x2 x3 x4 x5 x6 x7
    have x0 := HX5.out.cell 0
    have x1 := HX5.out.cell 1
    have x2 := HX5.out.cell 2
    have x3 := HX5.out.cell 3
    have x4 := HX5.out.cell 4
    have x5 := HX5.out.cell 5
    have x6 := HX5.out.cell 6
    have x7 := HX5.out.cell 7
    simp at x0 x1 x2 x3 x4 x5 x6 x7
    by_cases hlt : j < m
    · have hex5 := (HEx.out.next HB5.out)
      obtain ⟨d', g, off, hd, ks', A', c', hdd, rfl, hgl, hkj, c0, c1, c2, c3, c4, c5, c6, c7, e1, e2, hok', hex'⟩ := hex5.at hlt
      have HKj := hide hkj
      have HOk' := hide hok'
      obtain ⟨⟨⟨k', n', s'⟩, er⟩, hp⟩ : ∃ p, p = (Ev.Ex.mk hd ks').val r role := ⟨_, rfl⟩
      have HP := hide hp
      have hvo := vOk_val (ks := ks') HR.out.2 hok'.1 (by unfold maxLen; omega : role.size ≤ maxLen)
      rw [← hp] at hvo
      have HVo := hide hvo
      have HEx' := hide hex'
      clear hp hvo hkj hok' hex' hex5
      obtain ⟨ho, ⟨hk, hn, hs⟩, hnm, hof, hN⟩ := hd
      simp only at c0 c1 c2 c3 c4 c5 c6
      go_wp2_with fail
      have cc := HIh.out d' hdd ⟨ho, ⟨hk, hn, hs⟩, hnm, hof, hN⟩ ks' A' ks'.length c' Ar nr cr r role w5 HEx'.out HOk'.out HR5.out hnr hro
      rw [← HP.out, ansV_mk] at cc
      unfold exV at cc
      simp only at cc
      with_reducible refine cc.mono ?_
      clear cc c0 c1 c2 c3 c4 c5 c6 c7
      rintro e w7 ⟨rfl, hb7⟩
      have HB57 := hide hb7
      clear hb7
      obtain ⟨w8, hw8⟩ : ∃ w8, w8 = w7.alloc (.cells #[.int .u8 (k'.toNat : Int), .int .i64 n', .string s'] 25) := ⟨_, rfl⟩
      have hK8 : Blk w8 w7.heap.size 25 #[.int .u8 (k'.toNat : Int), .int .i64 n', .string s'] := by rw [hw8]; exact Blk.new _ _ _
      have hb8 : Below w7.heap.size w7 w8 := by rw [hw8]; exact (Below.refl _ _).alloc (Nat.le_refl _) _
      have HB58 := hide (HB57.out.trans (hb8.mono HB57.out.size))
      have HB8 := hide (HB5.out.trans (HB58.out.mono HB5.out.size))
      have hs8 := HB58.out.size
      clear hb8 x0 x1 x2 x3 x4 x5 x6 x7
      go_upto_region 6 with fail
      rw [← hw8]
      clear hw8
      have u0 := hK8.cell 0
      have u1 := hK8.cell 1
      have u2 := hK8.cell 2
      simp at u0 u1 u2
      clear hK8
      by_cases her : er = 0
      · subst her
        have HT2 : Hid (Ev.vals r role (ks.take (j + 1)) = (l ++ [⟨k', n', s'⟩], 0)) := Ev.vals_snoc HT.out HKj.out HP.out.symm
        have HLo2 : Hid (∀ v ∈ l ++ [(⟨k', n', s'⟩ : Cell.Val)], vOk v) := fun v hv => by
          rcases List.mem_append.1 hv with h | h
          · exact HLo.out v h
          · rw [List.mem_singleton] at h
            rw [h]
            exact HVo.out
        have hlen : l.length ≤ m := by
          have h1 := Ev.vals_len HT.out
          rw [List.length_take] at h1
          omega
        obtain ⟨w9, hw9⟩ : ∃ w9, w9 = w8.alloc (.cells #[.int .u8 (k'.toNat : Int), .int .i64 n', .string s'] 25) := ⟨_, rfl⟩
        have HG9 : Hid (Blk w9 w8.heap.size 25 #[.int .u8 (k'.toNat : Int), .int .i64 n', .string s']) := by rw [hw9]; exact Blk.new _ _ _
        have hb9 : Below w8.heap.size w8 w9 := by rw [hw9]; exact (Below.refl _ _).alloc (Nat.le_refl _) _
        have HB59 := hide (HB58.out.trans (hb9.mono hs8))
        have HB19 := hide (HB15.out.trans (HB59.out.mono hs5))
        have HO9 := hide (own_below HO.out HB59.out)
        have hs9 := HB19.out.size
        clear hb9
        go_wp2_with (at_builtin; rw [← hw9]; refine wpList_appV rfl (.tmp 33) (.tmp 35) Tryz.underlying29 rfl w1.heap.size _ l rfl HO9.out w8.heap.size 1 ⟨k', n', s'⟩ rfl rfl HG9.out (by omega) hs9 ?_; intro v10 w10 ho10 hb10; have HO10 := hide ho10; have HB10 := hide (HB19.out.trans hb10); clear ho10 hb10)
        go_roundg (m - (j + 1))
        case measure => omega
        case rel => exact ⟨j + 1, l ++ [⟨k', n', s'⟩], by omega, rfl, by go_num, HT2, HLo2, HO10, HB10.out⟩
      · have te : ((er : Int) != 0) = true := by simp; omega
        have HSp : Hid (Ev.vals r role ks = ([], er)) := Ev.vals_stop HT.out HKj.out HP.out.symm her
        clear her
        go_wp2_with fail
        go_ret2
        rw [HSp.out]
        exact ⟨none, 0, rfl, rv_nil _ _ _, Nat.zero_le _, HB8.out⟩
    · obtain rfl : j = m := by omega
      have htk : ks.take j = ks := List.take_of_length_le (by rw [← HMl.out]; exact Nat.le_refl _)
      have HSp : Hid (Ev.vals r role ks = (l, 0)) := by
        have := HT.out
        rw [htk] at this
        exact this
      have HLn : Hid (l.length ≤ j) := by
        have := Ev.vals_len HSp.out
        have := HMl.out
        show _ ≤ _
        omega
      obtain ⟨A1, c1, rfl⟩ := own_sl HO.out
      have HRv : Hid (Rv w5 w5.heap.size A1 l.length l) := Rv.own HO.out HLo.out
      go_wp2_with fail
      go_ret2
      rw [HSp.out]
      exact ⟨A1, c1, rfl, HRv.out, HLn.out, HB5.out⟩
end Go.Proofs.YticljmgcgjibpaaGreatDoor
