/-
  The walks of chanceryref24.leaf, truths, logic: they are Ev.leaf, Ev.truthsB, and what And, Or, Not make of truths. Conditions: what is read reads as a list.
-/
import Derived.Test.YticljmgcgjibpaaGreatDoorEvH
import Derived.Test.YticljmgcgjibpaaGreatDoorSmE
import Derived.Test.YticljmgcgjibpaaGreatDoorTold
namespace Go.Proofs.YticljmgcgjibpaaGreatDoor
open Go.RowKit

set_option linter.unusedVariables false in
set_option maxRecDepth 1000000 in
set_option maxHeartbeats 4000000 in
theorem rleaf_any (h : Ev.Hd) (A : Option Addr) (m c : Nat) (Ar : Option Addr) (nr cr : Nat) (r : List Cell.Val) (role : ByteArray) (w : World) (hr : Rv w w.heap.size Ar nr r) (hnr : nr ≤ 9223372036854775807) (hro : role.size ≤ 9223372036854775807) :
    Calls Tryz.prog 22 #[exV h A m c, .slice Ar nr cr, .string role] w fun e w' => e = .returned (ansV (Ev.leaf r role h)) ∧ Below w.heap.size w w' := by
  obtain ⟨o, ⟨k, n, s⟩, nm, of, N⟩ := h
  unfold exV
  simp only
  have HRv := hide hr
  have HLr := hide hr.len
  clear hr
  obtain ⟨w1, hw1⟩ : ∃ x, x = (w.alloc (.cells #[.int .u8 (o.toNat : Int), .int .u8 (k.toNat : Int), .int .i64 n, .string s, .string nm, .string of, .int .i64 N, .slice A m c] 28)).alloc (.cells #[.int .u8 0, .int .i64 0, .string ⟨#[]⟩] 25) := ⟨_, rfl⟩
  have HX : Hid (Blk w1 w.heap.size 28 #[.int .u8 (o.toNat : Int), .int .u8 (k.toNat : Int), .int .i64 n, .string s, .string nm, .string of, .int .i64 N, .slice A m c]) := by rw [hw1]; exact (Blk.new w _ _).alloc _
  have HZ : Hid (Blk w1 (w.heap.size + 1) 25 #[.int .u8 0, .int .i64 0, .string ⟨#[]⟩]) := by
    rw [hw1]
    have := Blk.new (w.alloc (.cells #[.int .u8 (o.toNat : Int), .int .u8 (k.toNat : Int), .int .i64 n, .string s, .string nm, .string of, .int .i64 N, .slice A m c] 28)) 25 #[.int .u8 0, .int .i64 0, .string ⟨#[]⟩]
    exact hide (by simpa using this)
  have HB : Hid (Below w.heap.size w w1) := by
    rw [hw1]
    exact ((Below.refl _ _).alloc (Nat.le_refl _) _).alloc (by simp) _
  have hs1 : w1.heap.size = w.heap.size + 1 + 1 := by rw [hw1]; simp
  go_enter Tryz.func22, Tryz.ntmps22
  go_upto_region 1 with fail
  rw [← hw1]
  clear hw1
  have x0 := HX.out.cell 0
  have x1 := HX.out.cell 1
  have x2 := HX.out.cell 2
  have x3 := HX.out.cell 3
  have x4 := HX.out.cell 4
  have x5 := HX.out.cell 5
  have x6 := HX.out.cell 6
  have x7 := HX.out.cell 7
  simp at x0 x1 x2 x3 x4 x5 x6 x7
  have z0 := HZ.out.cell 0
  have z1 := HZ.out.cell 1
  have z2 := HZ.out.cell 2
  simp at z0 z1 z2
  have f0 := HZ.out.frozen 0
  have f1 := HZ.out.frozen 1
  have f2 := HZ.out.frozen 2
  by_cases h1 : o.toNat = 1
  · have t1 : ((o.toNat : Int) == 1) = true := by simp; omega
    have HE := hide (Ev.leaf_lit (r := r) (role := role) (h := ⟨o, ⟨k, n, s⟩, nm, of, N⟩) h1)
    clear h1
    go_wp2_with fail
    with_reducible refine (refRight_any k n s _).mono ?_
    rintro e w2 ⟨rfl, hb⟩
    have hs2 := hb.size
    replace HX := hide (HX.out.below hb (by omega))
    replace HZ := hide (HZ.out.below hb (by omega))
    replace HB := hide (HB.out.trans (hb.mono HB.out.size))
    clear hb x0 x1 x2 x3 x4 x5 x6 x7 z0 z1 z2 f0 f1 f2
    have x0 := HX.out.cell 0
    have x1 := HX.out.cell 1
    have x2 := HX.out.cell 2
    have x3 := HX.out.cell 3
    have x4 := HX.out.cell 4
    have x5 := HX.out.cell 5
    have x6 := HX.out.cell 6
    have x7 := HX.out.cell 7
    simp at x0 x1 x2 x3 x4 x5 x6 x7
    have z0 := HZ.out.cell 0
    have z1 := HZ.out.cell 1
    have z2 := HZ.out.cell 2
    simp at z0 z1 z2
    have f0 := HZ.out.frozen 0
    have f1 := HZ.out.frozen 1
    have f2 := HZ.out.frozen 2
    cases hq : Cell.rightB ⟨k, n, s⟩ with
    | true =>
      have HQ := hide hq
      clear hq
      go_wp2_with fail
      exact bodyPost_ret (v := .tuple #[.agg #[.int .u8 (k.toNat : Int), .int .i64 n, .string s], .int .i64 0]) (results_val rfl (blk3 HZ.out _ _ _) rfl rfl) rfl ⟨by rw [HE.out, if_pos HQ.out]; rfl, below3 HB.out (by omega) _ _ _⟩
    | false =>
      have HQ : Hid (¬ Cell.rightB ⟨k, n, s⟩ = true) := by show ¬ _; rw [hq]; simp
      clear hq
      go_wp2_with fail
      exact bodyPost_ret (v := .tuple #[.agg #[.int .u8 0, .int .i64 0, .string ⟨#[]⟩], .int .i64 2]) (results_val rfl (blk3 HZ.out _ _ _) rfl rfl) rfl ⟨by rw [HE.out, if_neg HQ.out]; rfl, below3 HB.out (by omega) _ _ _⟩
  · have t1 : ((o.toNat : Int) == 1) = false := by simp; omega
    by_cases h2 : o.toNat = 22
    · have t2 : ((o.toNat : Int) == 22) = true := by simp; omega
      by_cases hN : N < 0
      · have t3 : decide (N < 0) = true := decide_eq_true hN
        have HE := hide (Ev.leaf_no (r := r) (role := role) (h := ⟨o, ⟨k, n, s⟩, nm, of, N⟩) h2 (.inl hN))
        clear h1 h2
        go_wp2_with fail
        exact bodyPost_ret (v := .tuple #[.agg #[.int .u8 0, .int .i64 0, .string ⟨#[]⟩], .int .i64 2]) (results_val rfl (blk3 HZ.out _ _ _) rfl rfl) rfl ⟨by rw [HE.out]; rfl, below3 HB.out (by omega) _ _ _⟩
      · have t3 : decide (N < 0) = false := decide_eq_false hN
        by_cases hN2 : (nr : Int) ≤ N
        · have t4 : decide ((nr : Int) ≤ N) = true := decide_eq_true hN2
          have HE := hide (Ev.leaf_no (r := r) (role := role) (h := ⟨o, ⟨k, n, s⟩, nm, of, N⟩) h2 (.inr (by rw [HLr.out]; exact hN2)))
          clear h1 h2
          go_wp2_with fail
          exact bodyPost_ret (v := .tuple #[.agg #[.int .u8 0, .int .i64 0, .string ⟨#[]⟩], .int .i64 2]) (results_val rfl (blk3 HZ.out _ _ _) rfl rfl) rfl ⟨by rw [HE.out]; rfl, below3 HB.out (by omega) _ _ _⟩
        · have t4 : decide ((nr : Int) ≤ N) = false := decide_eq_false hN2
          obtain ⟨i, rfl⟩ : ∃ i : Nat, N = (i : Int) := ⟨N.toNat, by omega⟩
          obtain ⟨b, off, kd, nn, ss, rfl, hbl, hri, c0, c1, c2, hok⟩ := HRv.out.at (k := i) (by omega)
          have HE := hide (Ev.leaf_at (r := r) (role := role) (h := ⟨o, ⟨k, n, s⟩, nm, of, (i : Int)⟩) h2 hN hri)
          have hin : i < nr := by omega
          have HC := hide (And.intro c0 (And.intro c1 c2))
          replace c0 := (HB.out.cell (p := ⟨b, off + i * 3, none⟩) hbl).trans c0
          replace c1 := (HB.out.cell (p := ⟨b, off + i * 3 + 1, none⟩) hbl).trans c1
          replace c2 := (HB.out.cell (p := ⟨b, off + i * 3 + 2, none⟩) hbl).trans c2
          clear h1 h2 hN hN2 t3 hri hok
          have t3 : decide ((i : Int) < 0) = false := by simp
          go_wp2_with fail
          with_reducible refine (refRight_any kd nn ss _).mono ?_
          rintro e w2 ⟨rfl, hb⟩
          clear c0 c1 c2
          have hs2 := hb.size
          replace HX := hide (HX.out.below hb (by omega))
          replace HZ := hide (HZ.out.below hb (by omega))
          replace HB := hide (HB.out.trans (hb.mono HB.out.size))
          clear hb x0 x1 x2 x3 x4 x5 x6 x7 z0 z1 z2 f0 f1 f2
          have x0 := HX.out.cell 0
          have x1 := HX.out.cell 1
          have x2 := HX.out.cell 2
          have x3 := HX.out.cell 3
          have x4 := HX.out.cell 4
          have x5 := HX.out.cell 5
          have x6 := HX.out.cell 6
          have x7 := HX.out.cell 7
          simp at x0 x1 x2 x3 x4 x5 x6 x7
          have z0 := HZ.out.cell 0
          have z1 := HZ.out.cell 1
          have z2 := HZ.out.cell 2
          simp at z0 z1 z2
          have f0 := HZ.out.frozen 0
          have f1 := HZ.out.frozen 1
          have f2 := HZ.out.frozen 2
          obtain ⟨c0, c1, c2⟩ := HC.out
          replace c0 := (HB.out.cell (p := ⟨b, off + i * 3, none⟩) hbl).trans c0
          replace c1 := (HB.out.cell (p := ⟨b, off + i * 3 + 1, none⟩) hbl).trans c1
          replace c2 := (HB.out.cell (p := ⟨b, off + i * 3 + 2, none⟩) hbl).trans c2
          cases hq : Cell.rightB ⟨kd, nn, ss⟩ with
          | true =>
            have HQ := hide hq
            clear hq
            go_wp2_with fail
            exact bodyPost_ret (v := .tuple #[.agg #[.int .u8 (kd.toNat : Int), .int .i64 nn, .string ss], .int .i64 0]) (results_val rfl (blk3 HZ.out _ _ _) rfl rfl) rfl ⟨by rw [HE.out, if_pos HQ.out]; rfl, below3 HB.out (by omega) _ _ _⟩
          | false =>
            have HQ : Hid (¬ Cell.rightB ⟨kd, nn, ss⟩ = true) := by show ¬ _; rw [hq]; simp
            clear hq
            go_wp2_with fail
            exact bodyPost_ret (v := .tuple #[.agg #[.int .u8 0, .int .i64 0, .string ⟨#[]⟩], .int .i64 2]) (results_val rfl (blk3 HZ.out _ _ _) rfl rfl) rfl ⟨by rw [HE.out, if_neg HQ.out]; rfl, below3 HB.out (by omega) _ _ _⟩
    · have t2 : ((o.toNat : Int) == 22) = false := by simp; omega
      by_cases h3 : o.toNat = 21
      · have t3 : ((o.toNat : Int) == 21) = true := by simp; omega
        have HE := hide (Ev.leaf_user (r := r) (role := role) (h := ⟨o, ⟨k, n, s⟩, nm, of, N⟩) h3)
        by_cases h4 : 200 < role.size
        · have t4 : decide ((200 : Int) < (role.size : Int)) = true := decide_eq_true (by omega)
          have HM : Hid (min role.size 200 = 200) := by show _ = _; omega
          clear h1 h2 h3
          go_wp2_with fail
          exact bodyPost_ret (v := .tuple #[.agg #[.int .u8 4, .int .i64 0, .string (role.extract 0 200)], .int .i64 0]) (results_val rfl (blk3 HZ.out _ _ _) rfl rfl) rfl ⟨by rw [HE.out, HM.out]; rfl, below3 HB.out (by omega) _ _ _⟩
        · have t4 : decide ((200 : Int) < (role.size : Int)) = false := decide_eq_false (by omega)
          have HM : Hid (role.extract 0 (min role.size 200) = role) := by
            show _ = _
            rw [show min role.size 200 = role.size by omega]
            exact ByteArray.extract_zero_size
          clear h1 h2 h3
          go_wp2_with fail
          exact bodyPost_ret (v := .tuple #[.agg #[.int .u8 4, .int .i64 0, .string role], .int .i64 0]) (results_val rfl (blk3 HZ.out _ _ _) rfl rfl) rfl ⟨by rw [HE.out, HM.out]; rfl, below3 HB.out (by omega) _ _ _⟩
      · have t3 : ((o.toNat : Int) == 21) = false := by simp; omega
        have HE := hide (Ev.leaf_other (r := r) (role := role) (h := ⟨o, ⟨k, n, s⟩, nm, of, N⟩) h1 h2 h3)
        clear h1 h2 h3
        go_wp2_with fail
        exact bodyPost_ret (v := .tuple #[.agg #[.int .u8 0, .int .i64 0, .string ⟨#[]⟩], .int .i64 330]) (results_val rfl (blk3 HZ.out _ _ _) rfl rfl) rfl ⟨by rw [HE.out]; rfl, below3 HB.out (by omega) _ _ _⟩
end Go.Proofs.YticljmgcgjibpaaGreatDoor

/-
  The walks of chanceryref24.truths, logic. Conditions: what is read reads as a list of one or two values.
-/
namespace Go.Proofs.YticljmgcgjibpaaGreatDoor
open Go.RowKit

set_option linter.unusedVariables false in
set_option maxRecDepth 1000000 in
set_option maxHeartbeats 4000000 in
theorem rtruths_any (A : Option Addr) (n c : Nat) (l : List Cell.Val) (w : World) (hr : Rv w w.heap.size A n l) (hn : n ≤ 2) :
    Calls Tryz.prog 72 #[.slice A n c] w fun e w' => ∃ A' c', e = .returned (.tuple #[.slice A' (Ev.truthsB l).1.length c', .int .i64 ((Ev.truthsB l).2 : Int)]) ∧ Rt w' w'.heap.size A' (Ev.truthsB l).1.length (Ev.truthsB l).1 ∧ Below w.heap.size w w' := by
  have HR := hide hr
  have HL := hide hr.len
  clear hr
  go_enter Tryz.func72, Tryz.ntmps72
  go_wp2_with fail
  go_loopg [4, 5] n (fun gg kv iv wr => ∃ (k : Nat) (ts : List Nat), k ≤ n ∧ gg = n - k ∧ iv = .int .i64 (k : Nat) ∧ Hid (Ev.truthsB (l.take k) = (ts, 0)) ∧ Hid (wr.ownsRow w.heap.size 36 1 kv ts.length (tru ts)) ∧ Below w.heap.size w wr)
  case atStart => exact ⟨0, [], Nat.zero_le _, rfl, rfl, rfl, own_nil _ _ _ _, Below.refl _ _⟩
  case round =>
    obtain ⟨k, ts, hk, rfl, rfl, HT, HO, hbel⟩ := hrel
    obtain ⟨w5, hw5⟩ : ∃ w5, w5 = wr := ⟨_, rfl⟩
    subst hw5
    have HB5 := hide hbel
    have hs5 := hbel.size
    clear hbel
    by_cases hlt : k < n
    · obtain ⟨b, off, kd, nn, ss, rfl, hbl, hlk, c0, c1, c2, hok⟩ := HR.out.at hlt
      replace c0 := (HB5.out.cell (p := ⟨b, off + k * 3, none⟩) hbl).trans c0
      replace c1 := (HB5.out.cell (p := ⟨b, off + k * 3 + 1, none⟩) hbl).trans c1
      replace c2 := (HB5.out.cell (p := ⟨b, off + k * 3 + 2, none⟩) hbl).trans c2
      have HLk := hide hlk
      clear hlk hok
      obtain ⟨⟨t, er⟩, hp⟩ : ∃ p, p = Lg.truth ⟨kd, nn, ss⟩ := ⟨_, rfl⟩
      have HP := hide hp.symm
      clear hp
      go_wp2_with fail
      have cc := rTruth_any kd nn ss w5
      rw [HP.out] at cc
      unfold truV at cc
      with_reducible refine cc.mono ?_
      clear cc
      simp only
      rintro e w7 ⟨rfl, hb7⟩
      have HO7 := hide (own_below HO.out hb7)
      have HB7 := hide (HB5.out.trans (hb7.mono hs5))
      have hs7 := hb7.size
      clear hb7 c0 c1 c2
      by_cases her : er = 0
      · subst her
        have HT2 : Hid (Ev.truthsB (l.take (k + 1)) = (ts ++ [t], 0)) := by
          show _ = _
          rw [List.take_add_one, HLk.out]
          exact Ev.truths_snoc HT.out HP.out
        have hlen : ts.length ≤ 2 := by
          have h1 := Ev.truths_len HT.out
          rw [List.length_take] at h1
          omega
        obtain ⟨w8, hw8⟩ : ∃ w8, w8 = w7.alloc (.cells #[.int .u8 (t : Int)] 36) := ⟨_, rfl⟩
        have HG8 : Hid (Blk w8 w7.heap.size 36 #[.int .u8 (t : Int)]) := by rw [hw8]; exact Blk.new _ _ _
        have hb8 : Below w7.heap.size w7 w8 := by rw [hw8]; exact (Below.refl _ _).alloc (Nat.le_refl _) _
        have HB8 := hide (HB7.out.trans (hb8.mono (by omega)))
        have HO8 := hide (own_below HO7.out hb8)
        have hs8 := hb8.size
        clear hb8
        go_wp2_with (at_builtin; rw [← hw8]; refine wpList_appTr rfl (.tmp 25) (.tmp 27) rfl w.heap.size _ ts rfl HO8.out w7.heap.size 1 t rfl HG8.out (by omega) (by omega) ?_; intro v9 w9 ho9 hb9; have HO9 := hide ho9; have HB9 := hide (HB8.out.trans hb9); clear ho9 hb9)
        go_roundg (n - (k + 1))
        case measure => omega
        case rel => exact ⟨k + 1, ts ++ [t], by omega, rfl, by go_num, HT2.out, HO9.out, HB9.out⟩
      · have te : ((er : Int) != 0) = true := by simp; omega
        have HT2 : Hid (Ev.truthsB l = ([], er)) := by
          show _ = _
          have hkl : k < l.length := by rw [HL.out]; exact hlt
          have h1 := Ev.truths_stop (r := l.drop (k + 1)) HT.out HP.out her
          have h2 : l = l.take k ++ (⟨kd, nn, ss⟩ : Cell.Val) :: l.drop (k + 1) := by
            have e1 : l[k] = ⟨kd, nn, ss⟩ := (List.getElem?_eq_some_iff.1 HLk.out).2
            rw [← e1, ← List.drop_eq_getElem_cons hkl, List.take_append_drop]
          rw [← h2] at h1
          exact h1
        clear her
        go_wp2_with fail
        go_ret2
        rw [HT2.out]
        exact ⟨none, 0, rfl, ⟨rfl, fun h => absurd h (by simp)⟩, HB7.out⟩
    · obtain rfl : k = n := by omega
      have htk : l.take k = l := List.take_of_length_le (by rw [HL.out]; exact Nat.le_refl _)
      have HT2 : Hid (Ev.truthsB l = (ts, 0)) := by
        have := HT.out
        rw [htk] at this
        exact this
      obtain ⟨A1, c1, rfl⟩ := own_sl HO.out
      have HRt : Hid (Rt w5 w5.heap.size A1 ts.length ts) := Rd.own HO.out
      go_wp2_with fail
      go_ret2
      rw [HT2.out]
      exact ⟨A1, c1, rfl, HRt.out, HB5.out⟩
def Ev.g_and (ts : List Nat) : Nat := Lg.and_ (ts.getD 0 0) (ts.getD 1 0)
set_option linter.unusedVariables false in
set_option maxRecDepth 1000000 in
set_option maxHeartbeats 4000000 in
theorem rlogic_and (o : UInt8) (A : Option Addr) (c : Nat) (l : List Cell.Val) (w : World) (ho : o.toNat = 13) (hr : Rv w w.heap.size A 2 l) :
    Calls Tryz.prog 30 #[.int .u8 (o.toNat : Int), .slice A 2 c] w fun e w' => e = .returned (ansV (Ev.lgn Ev.g_and l)) ∧ Below w.heap.size w w' := by
  have HL := hide hr.len
  have HR := hide hr
  have t1 : ((o.toNat : Int) == 13) = true := by simp; omega
  clear hr
  obtain ⟨w1, hw1⟩ : ∃ w1, w1 = w.alloc (.cells #[.int .u8 0, .int .i64 0, .string ⟨#[]⟩] 25) := ⟨_, rfl⟩
  have HZ : Hid (Blk w1 w.heap.size 25 #[.int .u8 0, .int .i64 0, .string ⟨#[]⟩]) := by rw [hw1]; exact Blk.new _ _ _
  have HB : Hid (Below w.heap.size w w1) := by rw [hw1]; exact (Below.refl _ _).alloc (Nat.le_refl _) _
  go_enter Tryz.func30, Tryz.ntmps30
  go_upto_region 1 with fail
  rw [← hw1]
  clear hw1
  go_wp2_with fail
  with_reducible refine (rtruths_any A 2 c l w1 (HR.out.next HB.out) (by decide)).mono ?_
  rintro e w2 ⟨A2, c2, rfl, hrt, hb⟩
  replace HZ := hide (HZ.out.below hb HZ.out.lt)
  replace HB := hide (HB.out.trans (hb.mono HB.out.size))
  obtain ⟨⟨ts, er⟩, htb⟩ : ∃ p, p = Ev.truthsB l := ⟨_, rfl⟩
  rw [← htb] at hrt ⊢
  have HRt := hide hrt
  have HT := hide htb.symm
  clear hb hrt htb
  simp only
  have z0 := HZ.out.cell 0
  have z1 := HZ.out.cell 1
  have z2 := HZ.out.cell 2
  simp at z0 z1 z2
  have f0 := HZ.out.frozen 0
  have f1 := HZ.out.frozen 1
  have f2 := HZ.out.frozen 2
  by_cases her : er = 0
  · subst her
    have hlen := Ev.truths_len HT.out
    rw [HL.out] at hlen
    obtain ⟨t, u, rfl⟩ : ∃ t u, ts = [t, u] := by
      match ts, hlen with
      | [t, u], _ => exact ⟨_, _, rfl⟩
    clear hlen
    go_wp2_with fail
    obtain ⟨b, off, rfl, hbl, d0⟩ := HRt.out.at (k := 0) (t := t) rfl
    obtain ⟨b', off', e, _, d1⟩ := HRt.out.at (k := 1) (t := u) rfl
    injection e with e
    injection e with e1 e2
    subst e1 e2
    obtain ⟨z, hz⟩ : ∃ z, z = Lg.and_ t u := ⟨_, rfl⟩
    have HZz := hide hz
    obtain ⟨p, hp⟩ : ∃ p, p = Lg.of_ z := ⟨_, rfl⟩
    have HPp := hide hp
    have HG : Hid (Ev.lgn Ev.g_and l = (p, 0)) := by
      show _ = _
      unfold Ev.lgn
      rw [HT.out, if_neg (by simp), hp, hz]
      rfl
    clear hz hp
    go_upto_region 6 with fail
    have hTs := tab_stable (l := [(6, NoF), (7, NoF)]) (fun p hp => by
        simp only [List.mem_cons, List.not_mem_nil, or_false] at hp
        rcases hp with rfl | rfl
        · exact NoF.stable
        · exact NoF.stable)
    have hSs := shp_some (l := [(6, IsV (.int .u8 (z : Int))), (7, IsV (.agg #[.int .u8 (p.k.toNat : Int), .int .i64 p.n, .string p.s]))]) (fun p hp => by
        simp only [List.mem_cons, List.not_mem_nil, or_false] at hp
        rcases hp with rfl | rfl
        · exact IsV.some _
        · exact IsV.some _)
    have HTs := hide hTs
    have HSs := hide hSs
    clear hTs hSs
    refine wp_region_toldL (tab [(6, NoF), (7, NoF)]) (Up w2) (w2.heap.size) 8 (shp [(6, IsV (.int .u8 (z : Int))), (7, IsV (.agg #[.int .u8 (p.k.toNat : Int), .int .i64 p.n, .string p.s]))]) (HSs.out) (HTs.out) (Up.lives _) Gro (Gro.turns (Up.lives _) (HTs.out)) (by kernel_rfl) (by kernel_rfl) (Up.start _) (Nat.le_refl _) ?_
    simp only [List.take_succ_cons, List.take_zero, List.drop_succ_cons, List.drop_zero]
    refine wpTold_read ?_ rfl rfl (fun w' hS => ?_) ?_
    rotate_left
    · go_simp
      rfl
    go_frame
    refine wpTold_read ?_ rfl rfl (fun w' hS => ?_) ?_
    rotate_left
    · go_simp
      rfl
    go_frame
    refine wpTold_read ?_ rfl rfl (fun w' hS => ?_) ?_
    rotate_left
    · have l0 := (hS.cell (p := ⟨b, off + 0, none⟩) hbl).trans d0
      rw [Nat.add_zero] at l0
      go_simp
      rfl
    go_frame
    refine wpTold_read ?_ rfl rfl (fun w' hS => ?_) ?_
    rotate_left
    · go_simp
      rfl
    go_frame
    refine wpTold_read ?_ rfl rfl (fun w' hS => ?_) ?_
    rotate_left
    · go_simp
      rfl
    go_frame
    refine wpTold_read ?_ rfl rfl (fun w' hS => ?_) ?_
    rotate_left
    · have l1 := (hS.cell (p := ⟨b, off + 1, none⟩) hbl).trans d1
      go_simp
      rfl
    go_frame
    refine' wpTold_call _ _ _ rfl rfl (fun w' => ?_) (fun w' hS hh hs => ?_) (fun v6 h6 => ?_)
    rotate_left 2
    · go_simp
      constructor <;> rfl
    · have cc := rAnd_any t u w'
      rw [← HZz.out] at cc
      refine cc.mono ?_
      rintro e w9 ⟨rfl, rfl⟩
      exact ⟨_, rfl, ⟨rfl, trivial⟩, Below.refl _ _⟩
    obtain rfl := h6
    go_frame
    refine' wpTold_call _ _ _ rfl rfl (fun w' => ?_) (fun w' hS hh hs => ?_) (fun v7 h7 => ?_)
    rotate_left 2
    · go_simp
      constructor <;> rfl
    · have cc := rOf_any z w'
      rw [← HPp.out] at cc
      refine cc.mono ?_
      rintro e w9 ⟨rfl, hb⟩
      exact ⟨_, rfl, ⟨rfl, trivial⟩, hb⟩
    obtain rfl := h7
    go_frame
    refine wpTold_nil fun w6 hH => ?_
    have hup : Below w2.heap.size w2 w6 := hH.s
    have HZ6 := hide (HZ.out.below hup HZ.out.lt)
    have HB6 := hide (HB.out.trans (hup.mono HB.out.size))
    clear hH hup d0 d1
    clear z0 z1 z2 f0 f1 f2
    have z0 := HZ6.out.cell 0
    have z1 := HZ6.out.cell 1
    have z2 := HZ6.out.cell 2
    simp at z0 z1 z2
    have f0 := HZ6.out.frozen 0
    have f1 := HZ6.out.frozen 1
    have f2 := HZ6.out.frozen 2
    go_wp2_with fail
    exact bodyPost_ret (v := .tuple #[.agg #[.int .u8 (p.k.toNat : Int), .int .i64 p.n, .string p.s], .int .i64 0]) (results_val rfl (blk3 HZ6.out _ _ _) rfl rfl) rfl ⟨by rw [HG.out]; rfl, below3 HB6.out (Nat.le_refl _) _ _ _⟩
  · have te : ((er : Int) != 0) = true := by simp; omega
    have HG : Hid (Ev.lgn Ev.g_and l = (Val.vz, er)) := by
      show _ = _
      unfold Ev.lgn
      rw [HT.out, if_pos her]
    clear her
    go_wp2_with fail
    exact bodyPost_ret (v := .tuple #[.agg #[.int .u8 0, .int .i64 0, .string ⟨#[]⟩], .int .i64 (er : Int)]) (results_val rfl (blk3 HZ.out _ _ _) rfl rfl) rfl ⟨by rw [HG.out]; rfl, below3 HB.out (Nat.le_refl _) _ _ _⟩
def Ev.g_or (ts : List Nat) : Nat := Lg.or_ (ts.getD 0 0) (ts.getD 1 0)
set_option linter.unusedVariables false in
set_option maxRecDepth 1000000 in
set_option maxHeartbeats 4000000 in
theorem rlogic_or (o : UInt8) (A : Option Addr) (c : Nat) (l : List Cell.Val) (w : World) (ho : o.toNat = 14) (hr : Rv w w.heap.size A 2 l) :
    Calls Tryz.prog 30 #[.int .u8 (o.toNat : Int), .slice A 2 c] w fun e w' => e = .returned (ansV (Ev.lgn Ev.g_or l)) ∧ Below w.heap.size w w' := by
  have HL := hide hr.len
  have HR := hide hr
  have t1 : ((o.toNat : Int) == 13) = false := by simp; omega
  have t2 : ((o.toNat : Int) == 14) = true := by simp; omega
  clear hr
  obtain ⟨w1, hw1⟩ : ∃ w1, w1 = w.alloc (.cells #[.int .u8 0, .int .i64 0, .string ⟨#[]⟩] 25) := ⟨_, rfl⟩
  have HZ : Hid (Blk w1 w.heap.size 25 #[.int .u8 0, .int .i64 0, .string ⟨#[]⟩]) := by rw [hw1]; exact Blk.new _ _ _
  have HB : Hid (Below w.heap.size w w1) := by rw [hw1]; exact (Below.refl _ _).alloc (Nat.le_refl _) _
  go_enter Tryz.func30, Tryz.ntmps30
  go_upto_region 1 with fail
  rw [← hw1]
  clear hw1
  go_wp2_with fail
  with_reducible refine (rtruths_any A 2 c l w1 (HR.out.next HB.out) (by decide)).mono ?_
  rintro e w2 ⟨A2, c2, rfl, hrt, hb⟩
  replace HZ := hide (HZ.out.below hb HZ.out.lt)
  replace HB := hide (HB.out.trans (hb.mono HB.out.size))
  obtain ⟨⟨ts, er⟩, htb⟩ : ∃ p, p = Ev.truthsB l := ⟨_, rfl⟩
  rw [← htb] at hrt ⊢
  have HRt := hide hrt
  have HT := hide htb.symm
  clear hb hrt htb
  simp only
  have z0 := HZ.out.cell 0
  have z1 := HZ.out.cell 1
  have z2 := HZ.out.cell 2
  simp at z0 z1 z2
  have f0 := HZ.out.frozen 0
  have f1 := HZ.out.frozen 1
  have f2 := HZ.out.frozen 2
  by_cases her : er = 0
  · subst her
    have hlen := Ev.truths_len HT.out
    rw [HL.out] at hlen
    obtain ⟨t, u, rfl⟩ : ∃ t u, ts = [t, u] := by
      match ts, hlen with
      | [t, u], _ => exact ⟨_, _, rfl⟩
    clear hlen
    go_wp2_with fail
    obtain ⟨b, off, rfl, hbl, d0⟩ := HRt.out.at (k := 0) (t := t) rfl
    obtain ⟨b', off', e, _, d1⟩ := HRt.out.at (k := 1) (t := u) rfl
    injection e with e
    injection e with e1 e2
    subst e1 e2
    obtain ⟨z, hz⟩ : ∃ z, z = Lg.or_ t u := ⟨_, rfl⟩
    have HZz := hide hz
    obtain ⟨p, hp⟩ : ∃ p, p = Lg.of_ z := ⟨_, rfl⟩
    have HPp := hide hp
    have HG : Hid (Ev.lgn Ev.g_or l = (p, 0)) := by
      show _ = _
      unfold Ev.lgn
      rw [HT.out, if_neg (by simp), hp, hz]
      rfl
    clear hz hp
    go_upto_region 8 with fail
    have hTs := tab_stable (l := [(6, NoF), (7, NoF)]) (fun p hp => by
        simp only [List.mem_cons, List.not_mem_nil, or_false] at hp
        rcases hp with rfl | rfl
        · exact NoF.stable
        · exact NoF.stable)
    have hSs := shp_some (l := [(6, IsV (.int .u8 (z : Int))), (7, IsV (.agg #[.int .u8 (p.k.toNat : Int), .int .i64 p.n, .string p.s]))]) (fun p hp => by
        simp only [List.mem_cons, List.not_mem_nil, or_false] at hp
        rcases hp with rfl | rfl
        · exact IsV.some _
        · exact IsV.some _)
    have HTs := hide hTs
    have HSs := hide hSs
    clear hTs hSs
    refine wp_region_toldL (tab [(6, NoF), (7, NoF)]) (Up w2) (w2.heap.size) 8 (shp [(6, IsV (.int .u8 (z : Int))), (7, IsV (.agg #[.int .u8 (p.k.toNat : Int), .int .i64 p.n, .string p.s]))]) (HSs.out) (HTs.out) (Up.lives _) Gro (Gro.turns (Up.lives _) (HTs.out)) (by kernel_rfl) (by kernel_rfl) (Up.start _) (Nat.le_refl _) ?_
    simp only [List.take_succ_cons, List.take_zero, List.drop_succ_cons, List.drop_zero]
    refine wpTold_read ?_ rfl rfl (fun w' hS => ?_) ?_
    rotate_left
    · go_simp
      rfl
    go_frame
    refine wpTold_read ?_ rfl rfl (fun w' hS => ?_) ?_
    rotate_left
    · go_simp
      rfl
    go_frame
    refine wpTold_read ?_ rfl rfl (fun w' hS => ?_) ?_
    rotate_left
    · have l0 := (hS.cell (p := ⟨b, off + 0, none⟩) hbl).trans d0
      rw [Nat.add_zero] at l0
      go_simp
      rfl
    go_frame
    refine wpTold_read ?_ rfl rfl (fun w' hS => ?_) ?_
    rotate_left
    · go_simp
      rfl
    go_frame
    refine wpTold_read ?_ rfl rfl (fun w' hS => ?_) ?_
    rotate_left
    · go_simp
      rfl
    go_frame
    refine wpTold_read ?_ rfl rfl (fun w' hS => ?_) ?_
    rotate_left
    · have l1 := (hS.cell (p := ⟨b, off + 1, none⟩) hbl).trans d1
      go_simp
      rfl
    go_frame
    refine' wpTold_call _ _ _ rfl rfl (fun w' => ?_) (fun w' hS hh hs => ?_) (fun v6 h6 => ?_)
    rotate_left 2
    · go_simp
      constructor <;> rfl
    · have cc := rOr_any t u w'
      rw [← HZz.out] at cc
      refine cc.mono ?_
      rintro e w9 ⟨rfl, rfl⟩
      exact ⟨_, rfl, ⟨rfl, trivial⟩, Below.refl _ _⟩
    obtain rfl := h6
    go_frame
    refine' wpTold_call _ _ _ rfl rfl (fun w' => ?_) (fun w' hS hh hs => ?_) (fun v7 h7 => ?_)
    rotate_left 2
    · go_simp
      constructor <;> rfl
    · have cc := rOf_any z w'
      rw [← HPp.out] at cc
      refine cc.mono ?_
      rintro e w9 ⟨rfl, hb⟩
      exact ⟨_, rfl, ⟨rfl, trivial⟩, hb⟩
    obtain rfl := h7
    go_frame
    refine wpTold_nil fun w6 hH => ?_
    have hup : Below w2.heap.size w2 w6 := hH.s
    have HZ6 := hide (HZ.out.below hup HZ.out.lt)
    have HB6 := hide (HB.out.trans (hup.mono HB.out.size))
    clear hH hup d0 d1
    clear z0 z1 z2 f0 f1 f2
    have z0 := HZ6.out.cell 0
    have z1 := HZ6.out.cell 1
    have z2 := HZ6.out.cell 2
    simp at z0 z1 z2
    have f0 := HZ6.out.frozen 0
    have f1 := HZ6.out.frozen 1
    have f2 := HZ6.out.frozen 2
    go_wp2_with fail
    exact bodyPost_ret (v := .tuple #[.agg #[.int .u8 (p.k.toNat : Int), .int .i64 p.n, .string p.s], .int .i64 0]) (results_val rfl (blk3 HZ6.out _ _ _) rfl rfl) rfl ⟨by rw [HG.out]; rfl, below3 HB6.out (Nat.le_refl _) _ _ _⟩
  · have te : ((er : Int) != 0) = true := by simp; omega
    have HG : Hid (Ev.lgn Ev.g_or l = (Val.vz, er)) := by
      show _ = _
      unfold Ev.lgn
      rw [HT.out, if_pos her]
    clear her
    go_wp2_with fail
    exact bodyPost_ret (v := .tuple #[.agg #[.int .u8 0, .int .i64 0, .string ⟨#[]⟩], .int .i64 (er : Int)]) (results_val rfl (blk3 HZ.out _ _ _) rfl rfl) rfl ⟨by rw [HG.out]; rfl, below3 HB.out (Nat.le_refl _) _ _ _⟩
def Ev.g_not (ts : List Nat) : Nat := Lg.not_ (ts.getD 0 0)
set_option linter.unusedVariables false in
set_option maxRecDepth 1000000 in
set_option maxHeartbeats 4000000 in
theorem rlogic_not (o : UInt8) (A : Option Addr) (c : Nat) (l : List Cell.Val) (w : World) (ho : o.toNat = 15) (hr : Rv w w.heap.size A 1 l) :
    Calls Tryz.prog 30 #[.int .u8 (o.toNat : Int), .slice A 1 c] w fun e w' => e = .returned (ansV (Ev.lgn Ev.g_not l)) ∧ Below w.heap.size w w' := by
  have HL := hide hr.len
  have HR := hide hr
  have t1 : ((o.toNat : Int) == 13) = false := by simp; omega
  have t2 : ((o.toNat : Int) == 14) = false := by simp; omega
  clear hr
  obtain ⟨w1, hw1⟩ : ∃ w1, w1 = w.alloc (.cells #[.int .u8 0, .int .i64 0, .string ⟨#[]⟩] 25) := ⟨_, rfl⟩
  have HZ : Hid (Blk w1 w.heap.size 25 #[.int .u8 0, .int .i64 0, .string ⟨#[]⟩]) := by rw [hw1]; exact Blk.new _ _ _
  have HB : Hid (Below w.heap.size w w1) := by rw [hw1]; exact (Below.refl _ _).alloc (Nat.le_refl _) _
  go_enter Tryz.func30, Tryz.ntmps30
  go_upto_region 1 with fail
  rw [← hw1]
  clear hw1
  go_wp2_with fail
  with_reducible refine (rtruths_any A 1 c l w1 (HR.out.next HB.out) (by decide)).mono ?_
  rintro e w2 ⟨A2, c2, rfl, hrt, hb⟩
  replace HZ := hide (HZ.out.below hb HZ.out.lt)
  replace HB := hide (HB.out.trans (hb.mono HB.out.size))
  obtain ⟨⟨ts, er⟩, htb⟩ : ∃ p, p = Ev.truthsB l := ⟨_, rfl⟩
  rw [← htb] at hrt ⊢
  have HRt := hide hrt
  have HT := hide htb.symm
  clear hb hrt htb
  simp only
  have z0 := HZ.out.cell 0
  have z1 := HZ.out.cell 1
  have z2 := HZ.out.cell 2
  simp at z0 z1 z2
  have f0 := HZ.out.frozen 0
  have f1 := HZ.out.frozen 1
  have f2 := HZ.out.frozen 2
  by_cases her : er = 0
  · subst her
    have hlen := Ev.truths_len HT.out
    rw [HL.out] at hlen
    obtain ⟨t, rfl⟩ : ∃ t, ts = [t] := by
      match ts, hlen with
      | [t], _ => exact ⟨_, rfl⟩
    clear hlen
    skip
    obtain ⟨b, off, rfl, hbl, d0⟩ := HRt.out.at (k := 0) (t := t) rfl
    rw [Nat.add_zero] at d0
    obtain ⟨z, hz⟩ : ∃ z, z = Lg.not_ t := ⟨_, rfl⟩
    have HZz := hide hz
    obtain ⟨p, hp⟩ : ∃ p, p = Lg.of_ z := ⟨_, rfl⟩
    have HPp := hide hp
    have HG : Hid (Ev.lgn Ev.g_not l = (p, 0)) := by
      show _ = _
      unfold Ev.lgn
      rw [HT.out, if_neg (by simp), hp, hz]
      rfl
    clear hz hp
    go_wp2_with fail
    have cc := rNot_any t w2
    rw [← HZz.out] at cc
    with_reducible refine cc.mono ?_
    clear cc
    rintro e w5 ⟨rfl, rfl⟩
    go_wp2_with fail
    have cc := rOf_any z w2
    rw [← HPp.out] at cc
    unfold valV at cc
    with_reducible refine cc.mono ?_
    clear cc
    rintro e w6 ⟨rfl, hup⟩
    have HZ6 := hide (HZ.out.below hup HZ.out.lt)
    have HB6 := hide (HB.out.trans (hup.mono HB.out.size))
    clear hup d0
    clear z0 z1 z2 f0 f1 f2
    have z0 := HZ6.out.cell 0
    have z1 := HZ6.out.cell 1
    have z2 := HZ6.out.cell 2
    simp at z0 z1 z2
    have f0 := HZ6.out.frozen 0
    have f1 := HZ6.out.frozen 1
    have f2 := HZ6.out.frozen 2
    go_wp2_with fail
    exact bodyPost_ret (v := .tuple #[.agg #[.int .u8 (p.k.toNat : Int), .int .i64 p.n, .string p.s], .int .i64 0]) (results_val rfl (blk3 HZ6.out _ _ _) rfl rfl) rfl ⟨by rw [HG.out]; rfl, below3 HB6.out (Nat.le_refl _) _ _ _⟩
  · have te : ((er : Int) != 0) = true := by simp; omega
    have HG : Hid (Ev.lgn Ev.g_not l = (Val.vz, er)) := by
      show _ = _
      unfold Ev.lgn
      rw [HT.out, if_pos her]
    clear her
    go_wp2_with fail
    exact bodyPost_ret (v := .tuple #[.agg #[.int .u8 0, .int .i64 0, .string ⟨#[]⟩], .int .i64 (er : Int)]) (results_val rfl (blk3 HZ.out _ _ _) rfl rfl) rfl ⟨by rw [HG.out]; rfl, below3 HB.out (Nat.le_refl _) _ _ _⟩
end Go.Proofs.YticljmgcgjibpaaGreatDoor
