/-
  The walks of eval.Value and eval.Is: the value of an expression over a row, by a role. Conditions: what is read reads as a tree; the tables are laid.
-/
import Derived.Test.YticljmgcgjibpaaGreatDoorEvD
namespace Go.Proofs.YticljmgcgjibpaaGreatDoor
open Go.RowKit

namespace Ev
theorem sz_fit {k : UInt8} {x : Int} : (Val.answer k x).1.s.size = 0 := by
  unfold Val.answer
  split <;> rfl
theorem sz_of (a : Nat) : (Lg.of_ a).s.size = 0 := by
  unfold Lg.of_
  repeat' split
  all_goals rfl
theorem sz_opn (o : UInt8) (l : List V) : (opn o l).1.s.size = 0 := by
  have hz : Val.vz.s.size = 0 := rfl
  unfold opn
  split
  · split
    · unfold op1 lg1 null1 Val.neg
      repeat' split
      all_goals first | with_reducible exact hz | with_reducible exact sz_of _ | with_reducible exact sz_fit
    · exact hz
  · split
    · unfold op2 lg2 cmp2 Val.add Val.sub Val.mul
      repeat' split
      all_goals first | with_reducible exact hz | with_reducible exact sz_of _ | with_reducible exact sz_fit
    · exact hz
  · exact hz
theorem opn_bad {o : UInt8} {l : List V} (h : arity o ≠ l.length ∨ arity o = 0) (hl : l ≠ []) : opn o l = (Val.vz, 330) := by
  unfold opn
  split
  · rw [if_neg (by simp at h; omega)]
  · rw [if_neg (by simp at h; omega)]
  · rfl
theorem fit_err {k : UInt8} {x : Int} (h : (Val.answer k x).2 ≠ 0) : (Val.answer k x).1 = Val.vz := by
  unfold Val.answer at h ⊢
  split
  · rfl
  · rename_i hq
    rw [hq] at h
    exact absurd rfl h
theorem add_err {a b : V} (h : (Val.add a b).2 ≠ 0) : (Val.add a b).1 = Val.vz := by
  unfold Val.add at h ⊢
  split
  · rfl
  · rename_i h1
    rw [if_neg h1] at h
    split
    · rename_i h2
      rw [if_pos h2] at h
      exact fit_err h
    · rename_i h2
      rw [if_neg h2] at h
      exact fit_err h
theorem sub_err {a b : V} (h : (Val.sub a b).2 ≠ 0) : (Val.sub a b).1 = Val.vz := by
  unfold Val.sub at h ⊢
  split
  · rfl
  · rename_i h1
    rw [if_neg h1] at h
    split
    · rename_i h2
      rw [if_pos h2] at h
      exact fit_err h
    · rename_i h2
      rw [if_neg h2] at h
      exact fit_err h
theorem mul_err {a b : V} (h : (Val.mul a b).2 ≠ 0) : (Val.mul a b).1 = Val.vz := by
  unfold Val.mul at h ⊢
  split
  · rfl
  · rename_i h1
    rw [if_neg h1] at h
    split
    · rename_i h2
      rw [if_pos h2] at h
      exact fit_err h
    · rename_i h2
      rw [if_neg h2] at h
      split
      · rename_i h3
        rw [if_pos h3] at h
        exact fit_err h
      · rename_i h3
        rw [if_neg h3] at h
        exact fit_err h
theorem neg_err {a : V} (h : (Val.neg a).2 ≠ 0) : (Val.neg a).1 = Val.vz := by
  unfold Val.neg at h ⊢
  split
  · rfl
  · rename_i h1
    rw [if_neg h1] at h
    exact fit_err h
theorem lg1_err {a : V} (h : (lg1 a).2 ≠ 0) : (lg1 a).1 = Val.vz := by
  unfold lg1 at h ⊢
  split
  · rfl
  · rename_i h1
    rw [if_neg h1] at h
    exact absurd rfl h
theorem lg2_err {f : Nat → Nat → Nat} {a b : V} (h : (lg2 f a b).2 ≠ 0) : (lg2 f a b).1 = Val.vz := by
  unfold lg2 at h ⊢
  split
  · rfl
  · rename_i h1
    rw [if_neg h1] at h
    split
    · rfl
    · rename_i h2
      rw [if_neg h2] at h
      exact absurd rfl h
theorem cmp2_err2 {n : Nat} {a b : V} (h : (cmp2 n a b).2 ≠ 0) : (cmp2 n a b).1 = Val.vz := by
  unfold cmp2 at h ⊢
  split
  · rfl
  · rename_i h1
    rw [if_neg h1] at h
    exact absurd rfl h
theorem op1_err {o : UInt8} {a : V} (h : (op1 o a).2 ≠ 0) : (op1 o a).1 = Val.vz := by
  unfold op1 at h ⊢
  by_cases h3 : o = 3
  · rw [if_pos h3] at h ⊢
    exact neg_err h
  · rw [if_neg h3] at h ⊢
    by_cases h4 : o = 15
    · rw [if_pos h4] at h ⊢
      exact lg1_err h
    · rw [if_neg h4] at h
      exact absurd rfl h
theorem op2_err {o : UInt8} {a b : V} (h : (op2 o a b).2 ≠ 0) : (op2 o a b).1 = Val.vz := by
  unfold op2 at h ⊢
  by_cases h3 : o = 4
  · rw [if_pos h3] at h ⊢
    exact add_err h
  · rw [if_neg h3] at h ⊢
    by_cases h4 : o = 5
    · rw [if_pos h4] at h ⊢
      exact sub_err h
    · rw [if_neg h4] at h ⊢
      by_cases h5 : o = 6
      · rw [if_pos h5] at h ⊢
        exact mul_err h
      · rw [if_neg h5] at h ⊢
        by_cases h6 : o = 13
        · rw [if_pos h6] at h ⊢
          exact lg2_err h
        · rw [if_neg h6] at h ⊢
          by_cases h7 : o = 14
          · rw [if_pos h7] at h ⊢
            exact lg2_err h
          · rw [if_neg h7] at h ⊢
            exact cmp2_err2 h
theorem opn_err {o : UInt8} {l : List V} (h : (opn o l).2 ≠ 0) : (opn o l).1 = Val.vz := by
  match l with
  | [] => rfl
  | [a] =>
    by_cases h1 : arity o = 1
    · have e : opn o [a] = op1 o a := by simp only [opn]; rw [if_pos h1]
      rw [e] at h ⊢
      exact op1_err h
    · simp only [opn]
      rw [if_neg h1]
  | [a, b] =>
    by_cases h1 : arity o = 2
    · have e : opn o [a, b] = op2 o a b := by simp only [opn]; rw [if_pos h1]
      rw [e] at h ⊢
      exact op2_err h
    · simp only [opn]
      rw [if_neg h1]
  | _ :: _ :: _ :: _ => rfl
end Ev
theorem vOk_vz : vOk Val.vz := ⟨Nat.zero_le _, Ev.inR_vz⟩
theorem vOk_val {r : List Cell.Val} {role : ByteArray} {h : Ev.Hd} {ks : List Ev.Ex} (hr : ∀ v ∈ r, vOk v) (hv : vOk h.v) (hro : role.size ≤ maxLen) : vOk ((Ev.Ex.mk h ks).val r role).1 := by
  refine ⟨?_, Ev.inR_val (fun v hm => (hr v hm).2) hv.2⟩
  simp only [Ev.Ex.val, Ev.ansK]
  split
  · exact Nat.zero_le _
  · split
    · unfold Ev.leaf
      split
      · split
        · exact hv.1
        · exact Nat.zero_le _
      · split
        · split
          · exact Nat.zero_le _
          · rename_i v hq
            split at hq
            · cases hq
            · split
              · exact (hr _ (List.mem_of_getElem? hq)).1
              · exact Nat.zero_le _
        · split
          · show (role.extract 0 (min role.size 200)).size ≤ maxLen
            rw [ByteArray.size_extract]
            omega
          · exact Nat.zero_le _
    · rw [Ev.sz_opn]
      exact Nat.zero_le _
/-- The contract of eval.Value over trees d deep at most. -/
def Vc (d : Nat) : Prop := ∀ (h : Ev.Hd) (ks : List Ev.Ex) (A : Option Addr) (m c : Nat) (Ar : Option Addr) (nr cr : Nat) (r : List Cell.Val) (role : ByteArray) (w : World), ExK w (· < w.heap.size) d A m ks → HdOk h → m ≤ c → c ≤ 9223372036854775807 → Rv w w.heap.size Ar nr r → nr ≤ 9223372036854775807 → role.size ≤ 9223372036854775807 → Env w →
  Calls Tryz.prog 7 #[exV h A m c, .slice Ar nr cr, .string role] w fun e w' => e = .returned (ansV ((Ev.Ex.mk h ks).val r role)) ∧ Below w.heap.size w w'
set_option linter.unusedVariables false in
set_option maxRecDepth 1000000 in
set_option maxHeartbeats 4000000 in
theorem value_step (d : Nat) (ih : ∀ d', d = d' + 1 → Vc d') : Vc d := by
  intro h ks A m c Ar nr cr r role w hex hok hmc hc2 hr hnr hro hE
  have HEx := hide hex
  have HIh := hide ih
  have HOk := hide hok
  have HR := hide hr
  have HE := hide hE
  obtain ⟨hml, hmb⟩ := hex.len
  have HMl := hide hml
  obtain ⟨iV, hiV, hz0, hz1, hz2⟩ := info_parts infoV
  clear hex hok hr hE hml ih
  obtain ⟨o, ⟨k, n, s⟩, nm, of, N⟩ := h
  unfold exV
  simp only
  obtain ⟨w1, hw1⟩ : ∃ w1, w1 = (w.alloc (.cells #[.int .u8 (o.toNat : Int), .int .u8 (k.toNat : Int), .int .i64 n, .string s, .string nm, .string of, .int .i64 N, .slice A m c] 28)).alloc (.cells #[.int .u8 0, .int .i64 0, .string ⟨#[]⟩] 25) := ⟨_, rfl⟩
  have HX : Hid (Blk w1 w.heap.size 28 #[.int .u8 (o.toNat : Int), .int .u8 (k.toNat : Int), .int .i64 n, .string s, .string nm, .string of, .int .i64 N, .slice A m c]) := by rw [hw1]; exact (Blk.new w _ _).alloc _
  have HZ : Hid (Blk w1 (w.heap.size + 1) 25 #[.int .u8 0, .int .i64 0, .string ⟨#[]⟩]) := by
    rw [hw1]
    have := Blk.new (w.alloc (.cells #[.int .u8 (o.toNat : Int), .int .u8 (k.toNat : Int), .int .i64 n, .string s, .string nm, .string of, .int .i64 N, .slice A m c] 28)) 25 #[.int .u8 0, .int .i64 0, .string ⟨#[]⟩]
    exact hide (by simpa using this)
  have HB : Hid (Below w.heap.size w w1) := by
    rw [hw1]
    exact ((Below.refl _ _).alloc (Nat.le_refl _) _).alloc (by simp) _
  have hs1 : w.heap.size < w1.heap.size := HX.out.lt
  have hz1' : w.heap.size + 1 < w1.heap.size := HZ.out.lt
  have x0 := HX.out.cell 0
  have x1 := HX.out.cell 1
  have x2 := HX.out.cell 2
  have x3 := HX.out.cell 3
  have x4 := HX.out.cell 4
  have x5 := HX.out.cell 5
  have x6 := HX.out.cell 6
  have x7 := HX.out.cell 7
  simp at x0 x1 x2 x3 x4 x5 x6 x7
  go_enter Tryz.func7, Tryz.ntmps7
  go_upto_region 1 with fail
  rw [← hw1]
  clear hw1
  go_wp2_with (at_make; refine wpList_make_own _ rfl _ _ 29 rfl w1.heap.size 25 iV _ 3 Tryz.underlying29 hiV hz0 hz1 .i64 .i64 _ m rfl rfl rfl (by rw [hz2]; omega) (by unfold maxLen; omega) (Nat.le_refl _) ?_; intro w2 hown2 hg2; have HB2 : Hid (Below w1.heap.size w1 w2) := (Below.refl _ _).grown hg2 (Nat.le_refl _) (by simp); have HO2 : Hid (w2.ownsRow w1.heap.size 25 3 (.slice (some ⟨w1.heap.size, 0, none⟩) 0 m) 0 []) := hown2; have HX2 := hide (HX.out.below HB2.out hs1); clear hown2 hg2 x0 x1 x2 x3 x4 x5 x6; have x7' := HX2.out.cell 7; simp at x7')
  go_loopg [8, 24] m (fun gg kv iv wr => ∃ (k : Nat) (l : List Cell.Val), k ≤ m ∧ gg = m - k ∧ iv = .int .i64 (k : Nat) ∧ Hid (Ev.vals r role (ks.take k) = (l, 0)) ∧ Hid (∀ v ∈ l, vOk v) ∧ Hid (wr.ownsRow w1.heap.size 25 3 kv l.length (vcells l)) ∧ Below w1.heap.size w1 wr)
  case atStart => exact ⟨0, [], Nat.zero_le _, rfl, rfl, rfl, fun v h => absurd h (by simp), HO2.out, HB2.out⟩
  case round =>
    obtain ⟨j, l, hj, rfl, rfl, HT, HLo, HO, hbel⟩ := hrel
    obtain ⟨w5, hw5⟩ : ∃ w5, w5 = wr := ⟨_, rfl⟩
    subst hw5
    have HB15 := hide hbel
    have HB5 := hide (HB.out.trans (hbel.mono (by omega)))
    have HZ5 := hide (HZ.out.below hbel hz1')
    have HX5 := hide (HX.out.below hbel hs1)
    have hs5 := hbel.size
    have HR5 := hide (HR.out.next HB5.out)
    have HE5 := hide (HE.out.next HB5.out)
    clear hbel x7 x7'
    by_cases hlt : j < m
    · have hex5 := (HEx.out.next HB5.out)
      obtain ⟨d', g, off, hd, ks', A', c', hdd, rfl, hgl, hkj, c0, c1, c2, c3, c4, c5, c6, c7, e1, e2, hok', hex'⟩ := hex5.at hlt
      have HKj := hide hkj
      have HOk' := hide hok'
      obtain ⟨⟨⟨k', n', s'⟩, er⟩, hp⟩ : ∃ p, p = (Ev.Ex.mk hd ks').val r role := ⟨_, rfl⟩
      have HP := hide hp
      have hvo := vOk_val (ks := ks') HR.out.2 hok'.1 (by unfold maxLen; omega : role.size ≤ maxLen)
      rw [← hp] at hvo
      have HVo := hide hvo
      have HEx' := hide hex'
      clear hp hvo hkj hok' hex' hex5
      obtain ⟨ho, ⟨hk, hn, hs⟩, hnm, hof, hN⟩ := hd
      simp only at c0 c1 c2 c3 c4 c5 c6
      obtain ⟨w6, hw6⟩ : ∃ w6, w6 = w5.alloc (.cells #[.int .u8 (ho.toNat : Int), .int .u8 (hk.toNat : Int), .int .i64 hn, .string hs, .string hnm, .string hof, .int .i64 hN, .slice A' ks'.length c'] 28) := ⟨_, rfl⟩
      have hK6 : Blk w6 w5.heap.size 28 #[.int .u8 (ho.toNat : Int), .int .u8 (hk.toNat : Int), .int .i64 hn, .string hs, .string hnm, .string hof, .int .i64 hN, .slice A' ks'.length c'] := by rw [hw6]; exact Blk.new _ _ _
      have hb6 : Below w5.heap.size w5 w6 := by rw [hw6]; exact (Below.refl _ _).alloc (Nat.le_refl _) _
      have HB56 := hide hb6
      go_upto_region 5 with fail
      rw [← hw6]
      clear hw6 c0 c1 c2 c3 c4 c5 c6 c7
      have y0 := hK6.cell 0
      have y1 := hK6.cell 1
      have y2 := hK6.cell 2
      have y3 := hK6.cell 3
      have y4 := hK6.cell 4
      have y5 := hK6.cell 5
      have y6 := hK6.cell 6
      have y7 := hK6.cell 7
      simp at y0 y1 y2 y3 y4 y5 y6 y7
      clear hK6 hb6
      go_wp2_with fail
      have cc := HIh.out d' hdd ⟨ho, ⟨hk, hn, hs⟩, hnm, hof, hN⟩ ks' A' ks'.length c' Ar nr cr r role w6 (HEx'.out.next HB56.out) HOk'.out e1 e2 (HR5.out.next HB56.out) hnr hro (HE5.out.next HB56.out)
      rw [← HP.out, ansV_mk] at cc
      unfold exV at cc
      simp only at cc
      with_reducible refine cc.mono ?_
      clear cc
      rintro e w7 ⟨rfl, hb7⟩
      have HB57 := hide (HB56.out.trans (hb7.mono HB56.out.size))
      clear hb7 y0 y1 y2 y3 y4 y5 y6 y7
      obtain ⟨w8, hw8⟩ : ∃ w8, w8 = w7.alloc (.cells #[.int .u8 (k'.toNat : Int), .int .i64 n', .string s'] 25) := ⟨_, rfl⟩
      have hK8 : Blk w8 w7.heap.size 25 #[.int .u8 (k'.toNat : Int), .int .i64 n', .string s'] := by rw [hw8]; exact Blk.new _ _ _
      have hb8 : Below w7.heap.size w7 w8 := by rw [hw8]; exact (Below.refl _ _).alloc (Nat.le_refl _) _
      have HB58 := hide (HB57.out.trans (hb8.mono HB57.out.size))
      have HB8 := hide (HB5.out.trans (HB58.out.mono HB5.out.size))
      have HZ8 := hide (HZ5.out.below HB58.out HZ5.out.lt)
      have hs8 := HB58.out.size
      clear hb8
      go_upto_region 6 with fail
      rw [← hw8]
      clear hw8
      have u0 := hK8.cell 0
      have u1 := hK8.cell 1
      have u2 := hK8.cell 2
      simp at u0 u1 u2
      clear hK8
      by_cases her : er = 0
      · subst her
        have HT2 : Hid (Ev.vals r role (ks.take (j + 1)) = (l ++ [⟨k', n', s'⟩], 0)) := Ev.vals_snoc HT.out HKj.out HP.out.symm
        have HLo2 : Hid (∀ v ∈ l ++ [(⟨k', n', s'⟩ : Cell.Val)], vOk v) := fun v hv => by
          rcases List.mem_append.1 hv with h | h
          · exact HLo.out v h
          · rw [List.mem_singleton] at h
            rw [h]
            exact HVo.out
        have hlen : l.length ≤ m := by
          have h1 := Ev.vals_len HT.out
          rw [List.length_take] at h1
          omega
        obtain ⟨w9, hw9⟩ : ∃ w9, w9 = w8.alloc (.cells #[.int .u8 (k'.toNat : Int), .int .i64 n', .string s'] 25) := ⟨_, rfl⟩
        have HG9 : Hid (Blk w9 w8.heap.size 25 #[.int .u8 (k'.toNat : Int), .int .i64 n', .string s']) := by rw [hw9]; exact Blk.new _ _ _
        have hb9 : Below w8.heap.size w8 w9 := by rw [hw9]; exact (Below.refl _ _).alloc (Nat.le_refl _) _
        have HB59 := hide (HB58.out.trans (hb9.mono hs8))
        have HB19 := hide (HB15.out.trans (HB59.out.mono hs5))
        have HO9 := hide (own_below HO.out HB59.out)
        have hs9 := HB19.out.size
        clear hb9
        go_wp2_with (at_builtin; rw [← hw9]; refine wpList_appV rfl (.tmp 39) (.tmp 41) Tryz.underlying29 rfl w1.heap.size _ l rfl HO9.out w8.heap.size 1 ⟨k', n', s'⟩ rfl rfl HG9.out (by omega) hs9 ?_; intro v10 w10 ho10 hb10; have HO10 := hide ho10; have HB10 := hide (HB19.out.trans hb10); clear ho10 hb10)
        go_roundg (m - (j + 1))
        case measure => omega
        case rel => exact ⟨j + 1, l ++ [⟨k', n', s'⟩], by omega, rfl, by go_num, HT2, HLo2, HO10, HB10.out⟩
      · have te : ((er : Int) != 0) = true := by simp; omega
        have HSp : Hid ((Ev.Ex.mk ⟨o, ⟨k, n, s⟩, nm, of, N⟩ ks).val r role = (Val.vz, er)) := Ev.val_err (Ev.vals_stop HT.out HKj.out HP.out.symm her) her
        have z0 := HZ8.out.frozen 0
        have q0 := HZ8.out.cell 0
        have z1 := HZ8.out.frozen 1
        have q1 := HZ8.out.cell 1
        have z2 := HZ8.out.frozen 2
        have q2 := HZ8.out.cell 2
        simp at q0 q1 q2
        clear her
        go_wp2_with fail
        exact bodyPost_ret (v := .tuple #[.agg #[.int .u8 0, .int .i64 0, .string ⟨#[]⟩], .int .i64 (er : Int)]) (results_val rfl (blk3 HZ8.out _ _ _) rfl rfl) rfl ⟨by rw [HSp.out]; rfl, below3 HB8.out (by omega) _ _ _⟩

    · obtain rfl : j = m := by omega
      have hT := HT.out
      rw [List.take_of_length_le (by rw [← HMl.out]; exact Nat.le_refl _)] at hT
      have hlj : l.length = j := (Ev.vals_len hT).trans HMl.out.symm
      have HTT := hide hT
      obtain ⟨A5, c5, rfl, _, _, _⟩ := own_form HO.out
      have HRk : Hid (Rv w5 w5.heap.size A5 l.length l) := Rv.own HO.out HLo.out
      rw [hlj] at HRk ⊢
      have HLj := hide hlj
      clear hT hlj
      by_cases h0 : j = 0
      · subst h0
        have HK0 : Hid (ks = []) := List.eq_nil_of_length_eq_zero HMl.out.symm
        obtain ⟨⟨⟨k', n', s'⟩, er⟩, hp⟩ : ∃ p, p = Ev.leaf r role ⟨o, ⟨k, n, s⟩, nm, of, N⟩ := ⟨_, rfl⟩
        have HSp : Hid ((Ev.Ex.mk ⟨o, ⟨k, n, s⟩, nm, of, N⟩ ks).val r role = (⟨k', n', s'⟩, er)) := by
          show _ = _
          rw [HK0.out, Ev.val_leaf, hp]
        have HP := hide hp
        clear hp
        have x0 := HX5.out.cell 0
        have x1 := HX5.out.cell 1
        have x2 := HX5.out.cell 2
        have x3 := HX5.out.cell 3
        have x4 := HX5.out.cell 4
        have x5 := HX5.out.cell 5
        have x6 := HX5.out.cell 6
        have x7 := HX5.out.cell 7
        simp at x0 x1 x2 x3 x4 x5 x6 x7
        go_wp2_with fail
        have cc := leaf_any ⟨o, ⟨k, n, s⟩, nm, of, N⟩ A 0 c Ar nr cr r role w5 HR5.out hnr hro
        rw [← HP.out, ansV_mk] at cc
        unfold exV at cc
        simp only at cc
        with_reducible refine cc.mono ?_
        clear cc
        rintro e w6 ⟨rfl, hb6⟩
        have HB6 := hide (HB5.out.trans (hb6.mono HB5.out.size))
        have HZ6 := hide (HZ5.out.below hb6 HZ5.out.lt)
        have z0 := HZ6.out.frozen 0
        have q0 := HZ6.out.cell 0
        have z1 := HZ6.out.frozen 1
        have q1 := HZ6.out.cell 1
        have z2 := HZ6.out.frozen 2
        have q2 := HZ6.out.cell 2
        simp at q0 q1 q2
        clear hb6 x0 x1 x2 x3 x4 x5 x6 x7
        go_wp2_with fail
        exact bodyPost_ret (v := .tuple #[.agg #[.int .u8 (k'.toNat : Int), .int .i64 n', .string s'], .int .i64 (er : Int)]) (results_val rfl (blk3 HZ6.out _ _ _) rfl rfl) rfl ⟨by rw [HSp.out]; rfl, below3 HB6.out (by omega) _ _ _⟩

      · have th0 : ((j : Int) == 0) = false := by simp; omega
        have hl0 : l ≠ [] := fun e => by have := HLj.out; rw [e] at this; exact h0 this.symm
        have HSp : Hid ((Ev.Ex.mk ⟨o, ⟨k, n, s⟩, nm, of, N⟩ ks).val r role = Ev.opn o l) := Ev.val_op HTT.out hl0
        have HL0 := hide hl0
        have x0 := HX5.out.cell 0
        simp at x0
        clear h0 hl0
        go_wp2_with fail
        with_reducible refine (operation_any o w5).mono ?_
        rintro e w6 ⟨F, rfl, hF, hb6⟩
        obtain ⟨ar, har⟩ : ∃ a, a = Ev.arity o := ⟨_, rfl⟩
        rw [← har] at hF ⊢
        have HAr := hide har
        have HB6 := hide (HB5.out.trans (hb6.mono HB5.out.size))
        have HZ6 := hide (HZ5.out.below hb6 HZ5.out.lt)
        have HE6 := hide (HE5.out.next hb6)
        have hs6 := HB6.out.size
        replace HRk := hide (HRk.out.next hb6)
        clear hb6 x0 har
        by_cases hbad : ar = 0 ∨ ar ≠ j
        · have HS2 : Hid ((Ev.Ex.mk ⟨o, ⟨k, n, s⟩, nm, of, N⟩ ks).val r role = (Val.vz, 330)) := by
            show _ = _
            rw [HSp.out]
            exact Ev.opn_bad (by rw [← HAr.out, HLj.out]; omega) HL0.out
          have z0 := HZ6.out.frozen 0
          have q0 := HZ6.out.cell 0
          have z1 := HZ6.out.frozen 1
          have q1 := HZ6.out.cell 1
          have z2 := HZ6.out.frozen 2
          have q2 := HZ6.out.cell 2
          simp at q0 q1 q2
          by_cases ha0 : ar = 0
          · have ta : ((ar : Int) == 0) = true := by simp; omega
            clear hbad hF
            go_wp2_with fail
            exact bodyPost_ret (v := .tuple #[.agg #[.int .u8 0, .int .i64 0, .string ⟨#[]⟩], .int .i64 330]) (results_val rfl (blk3 HZ6.out _ _ _) rfl rfl) rfl ⟨by rw [HS2.out]; rfl, below3 HB6.out (by omega) _ _ _⟩

          · have ta : ((ar : Int) == 0) = false := by simp; omega
            have tb : ((ar : Int) != (j : Int)) = true := by simp; omega
            clear hbad hF
            go_wp2_with fail
            exact bodyPost_ret (v := .tuple #[.agg #[.int .u8 0, .int .i64 0, .string ⟨#[]⟩], .int .i64 330]) (results_val rfl (blk3 HZ6.out _ _ _) rfl rfl) rfl ⟨by rw [HS2.out]; rfl, below3 HB6.out (by omega) _ _ _⟩

        · obtain rfl : ar = j := by omega
          have ta : ((ar : Int) == 0) = false := by simp; omega
          have hm := hF (by omega)
          obtain ⟨n5, hn5⟩ : ∃ n5, n5 = ar := ⟨_, rfl⟩
          rw [← hn5] at hm HRk ta ⊢
          clear hbad hF hn5
          rcases hm with ⟨F', rfl, hN, hc⟩ | ⟨F', p, rfl, hN, hc⟩
          · obtain ⟨qe, hqe⟩ : ∃ q, q = (Ev.opn o l).2 := ⟨_, rfl⟩
            have HQe := hide hqe
            clear hqe
            go_wp2_with fail
            with_reducible refine (hc w6 (Below.refl _ _) HE6.out A5 c5 l HRk.out).mono ?_
            rintro e w7 ⟨v, rfl, hv, hb7⟩
            rw [← HQe.out] at hv ⊢
            have HV := hide hv
            have HB7 := hide (HB6.out.trans (hb7.mono (by omega)))
            have HZ7 := hide (HZ6.out.below hb7 HZ6.out.lt)
            obtain ⟨k', n', s'⟩ := v
            clear hv hb7 hN hc
            rw [ansV_mk]
            obtain ⟨w8, hw8⟩ : ∃ w8, w8 = w7.alloc (.cells #[.int .u8 (k'.toNat : Int), .int .i64 n', .string s'] 25) := ⟨_, rfl⟩
            have hK8 : Blk w8 w7.heap.size 25 #[.int .u8 (k'.toNat : Int), .int .i64 n', .string s'] := by rw [hw8]; exact Blk.new _ _ _
            have hb8 : Below w7.heap.size w7 w8 := by rw [hw8]; exact (Below.refl _ _).alloc (Nat.le_refl _) _
            have HB8 := hide (HB7.out.trans (hb8.mono HB7.out.size))
            have HZ8 := hide (HZ7.out.below hb8 HZ7.out.lt)
            clear hb8
            go_upto_region 16 with fail
            rw [← hw8]
            clear hw8
            have u0 := hK8.cell 0
            have u1 := hK8.cell 1
            have u2 := hK8.cell 2
            simp at u0 u1 u2
            clear hK8
            have z0 := HZ8.out.frozen 0
            have q0 := HZ8.out.cell 0
            have z1 := HZ8.out.frozen 1
            have q1 := HZ8.out.cell 1
            have z2 := HZ8.out.frozen 2
            have q2 := HZ8.out.cell 2
            simp at q0 q1 q2
            by_cases hqz : qe = 0
            · have hspec : Hid ((Ev.Ex.mk ⟨o, ⟨k, n, s⟩, nm, of, N⟩ ks).val r role = (⟨k', n', s'⟩, 0)) := by
                show _ = _
                rw [HSp.out]
                exact Prod.ext (HV.out hqz).symm (HQe.out.symm.trans hqz)
              have tq : ((qe : Int) != 0) = false := by simp; omega
              clear hqz
              go_wp2_with fail
              exact bodyPost_ret (v := .tuple #[.agg #[.int .u8 (k'.toNat : Int), .int .i64 n', .string s'], .int .i64 0]) (results_val rfl (blk3 HZ8.out _ _ _) rfl rfl) rfl ⟨by rw [hspec.out]; rfl, below3 HB8.out (by omega) _ _ _⟩

            · have hspec : Hid ((Ev.Ex.mk ⟨o, ⟨k, n, s⟩, nm, of, N⟩ ks).val r role = (Val.vz, qe)) := by
                show _ = _
                rw [HSp.out]
                exact Prod.ext (Ev.opn_err (by rw [← HQe.out]; exact hqz)) HQe.out.symm
              have tq : ((qe : Int) != 0) = true := by simp; omega
              clear hqz
              go_wp2_with fail
              exact bodyPost_ret (v := .tuple #[.agg #[.int .u8 0, .int .i64 0, .string ⟨#[]⟩], .int .i64 (qe : Int)]) (results_val rfl (blk3 HZ8.out _ _ _) rfl rfl) rfl ⟨by rw [hspec.out]; rfl, below3 HB8.out (by omega) _ _ _⟩

          · obtain ⟨qe, hqe⟩ : ∃ q, q = (Ev.opn o l).2 := ⟨_, rfl⟩
            have HQe := hide hqe
            clear hqe
            go_wp2_with fail
            with_reducible refine (hc w6 (Below.refl _ _) HE6.out A5 c5 l HRk.out).mono ?_
            rintro e w7 ⟨v, rfl, hv, hb7⟩
            rw [← HQe.out] at hv ⊢
            have HV := hide hv
            have HB7 := hide (HB6.out.trans (hb7.mono (by omega)))
            have HZ7 := hide (HZ6.out.below hb7 HZ6.out.lt)
            obtain ⟨k', n', s'⟩ := v
            clear hv hb7 hN hc
            rw [ansV_mk]
            obtain ⟨w8, hw8⟩ : ∃ w8, w8 = w7.alloc (.cells #[.int .u8 (k'.toNat : Int), .int .i64 n', .string s'] 25) := ⟨_, rfl⟩
            have hK8 : Blk w8 w7.heap.size 25 #[.int .u8 (k'.toNat : Int), .int .i64 n', .string s'] := by rw [hw8]; exact Blk.new _ _ _
            have hb8 : Below w7.heap.size w7 w8 := by rw [hw8]; exact (Below.refl _ _).alloc (Nat.le_refl _) _
            have HB8 := hide (HB7.out.trans (hb8.mono HB7.out.size))
            have HZ8 := hide (HZ7.out.below hb8 HZ7.out.lt)
            clear hb8
            go_upto_region 16 with fail
            rw [← hw8]
            clear hw8
            have u0 := hK8.cell 0
            have u1 := hK8.cell 1
            have u2 := hK8.cell 2
            simp at u0 u1 u2
            clear hK8
            have z0 := HZ8.out.frozen 0
            have q0 := HZ8.out.cell 0
            have z1 := HZ8.out.frozen 1
            have q1 := HZ8.out.cell 1
            have z2 := HZ8.out.frozen 2
            have q2 := HZ8.out.cell 2
            simp at q0 q1 q2
            by_cases hqz : qe = 0
            · have hspec : Hid ((Ev.Ex.mk ⟨o, ⟨k, n, s⟩, nm, of, N⟩ ks).val r role = (⟨k', n', s'⟩, 0)) := by
                show _ = _
                rw [HSp.out]
                exact Prod.ext (HV.out hqz).symm (HQe.out.symm.trans hqz)
              have tq : ((qe : Int) != 0) = false := by simp; omega
              clear hqz
              go_wp2_with fail
              exact bodyPost_ret (v := .tuple #[.agg #[.int .u8 (k'.toNat : Int), .int .i64 n', .string s'], .int .i64 0]) (results_val rfl (blk3 HZ8.out _ _ _) rfl rfl) rfl ⟨by rw [hspec.out]; rfl, below3 HB8.out (by omega) _ _ _⟩

            · have hspec : Hid ((Ev.Ex.mk ⟨o, ⟨k, n, s⟩, nm, of, N⟩ ks).val r role = (Val.vz, qe)) := by
                show _ = _
                rw [HSp.out]
                exact Prod.ext (Ev.opn_err (by rw [← HQe.out]; exact hqz)) HQe.out.symm
              have tq : ((qe : Int) != 0) = true := by simp; omega
              clear hqz
              go_wp2_with fail
              exact bodyPost_ret (v := .tuple #[.agg #[.int .u8 0, .int .i64 0, .string ⟨#[]⟩], .int .i64 (qe : Int)]) (results_val rfl (blk3 HZ8.out _ _ _) rfl rfl) rfl ⟨by rw [hspec.out]; rfl, below3 HB8.out (by omega) _ _ _⟩

theorem value_all : ∀ d, Vc d := by
  intro d
  induction d with
  | zero => exact value_step 0 fun d' h => absurd h (by omega)
  | succ d ih =>
    refine value_step (d + 1) fun d' h => ?_
    obtain rfl : d = d' := by omega
    exact ih
end Go.Proofs.YticljmgcgjibpaaGreatDoor
