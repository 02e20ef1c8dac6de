/-
  The walk of WireChunks: for every slice of bytes of at most 2^20 and every cuts it answers true. Conditions: the slice's capacity is at most 1048576.
-/
import Derived.Test.YtnieenlnpnaamaaFeeds
namespace Go.Proofs.Ytnieenlnpnaamaa
open Go.RowKit

theorem take_join (l : List UInt8) {k t : Nat} (h : k ≤ t) : l.take k ++ (l.take t).drop k = l.take t := by
  have : l.take k = (l.take t).take k := by rw [List.take_take, Nat.min_eq_left h]
  rw [this, List.take_append_drop]
set_option linter.unusedVariables false in
set_option maxRecDepth 8000 in
set_option maxHeartbeats 1600000 in
theorem chunks_walk (A : Option Addr) (n c : Nat) (l : List UInt8) (Ac : Option Addr) (nc cc : Nat) (zs : List Int) (w : World) (hl : Rb w w.heap.size A n l) (hlc : n ≤ c) (hcm : c ≤ maxLen) (hu : c ≤ 1048576)
    (hz : Rd w w.heap.size 1 Ac nc (zs.map (Value.int .i64))) (hnc : nc ≤ cc) (hccm : cc ≤ maxLen) :
    Calls Try.prog 3 #[.slice A n c, .slice Ac nc cc] w fun e w' => e = .returned (.bool true) ∧ Below w.heap.size w w' := by
  unfold maxLen at hcm hccm
  obtain ⟨iF, hiF, hzF0, hzF1, hzF2⟩ := info_parts infoF
  have HL := hide hl
  have HZ := hide hz
  clear hl hz
  go_enter Try.func3, Try.ntmps3
  go_wp2_with fail
  refine (new_any _).mono ?_
  intro e w1 hpost
  obtain ⟨rfl, hw1⟩ := hpost
  have HR1 : Hid (Rdr w1 w.heap.size w1.heap.size (.slice none 0 0) [] false) := ⟨by rw [hw1]; exact Blk.new _ _ _, own_nil _ _ _ _⟩
  have HB1 : Hid (Below w.heap.size w w1) := by rw [hw1]; exact (Below.refl _ _).alloc (Nat.le_refl _) _
  have hs1 : w1.heap.size = w.heap.size + 1 := by rw [hw1]; simp
  clear hw1
  go_wp2_with fail
  refine (new_any _).mono ?_
  intro e w2 hpost
  obtain ⟨rfl, hw2⟩ := hpost
  have HR2 : Hid (Rdr w2 w1.heap.size w2.heap.size (.slice none 0 0) [] false) := ⟨by rw [hw2]; exact Blk.new _ _ _, own_nil _ _ _ _⟩
  have HB2 : Hid (Below w1.heap.size w1 w2) := by rw [hw2]; exact (Below.refl _ _).alloc (Nat.le_refl _) _
  have hs2 : w2.heap.size = w1.heap.size + 1 := by rw [hw2]; simp
  clear hw2
  have HR1' := hide (HR1.out.below HB2.out)
  have HS1 := hide hs1
  have HS2 := hide hs2
  have hs1l : w.heap.size ≤ w1.heap.size := by omega
  have hs2l : w1.heap.size < w2.heap.size := by omega
  have hs12 : w.heap.size ≠ w1.heap.size := by omega
  clear hs1 hs2
  have hne1 := fun w' => eql_ptr_nil ⟨w.heap.size, 0, none⟩ w'
  have hne2 := fun w' => eql_ptr_nil ⟨w1.heap.size, 0, none⟩ w'
  have HBw2 := hide (HB1.out.trans (HB2.out.mono hs1l))
  go_wp2_with fail
  refine (copyBytes_any A n c l _ ((HL.out.below HBw2.out (Nat.le_refl _)).more (by omega)) (by omega)).mono ?_
  rintro e w3 ⟨v3, rfl, hown3, hb3⟩
  have HO3 := hide hown3
  have HB3 := hide hb3
  have hs3 := hb3.size
  clear hown3 hb3
  obtain ⟨A3, c3, rfl⟩ := own_sl HO3.out
  go_wp2_with fail
  refine (feed_made w.heap.size w1.heap.size _ [] false A3 n c3 l _ (HR1'.out.below HB3.out) (Rb.own HO3.out) (by simp; omega) (by omega)).mono ?_
  rintro e w4 ⟨vo, v4, mid, rfl, hm1, hm2, hfr4, hr4, ht4⟩
  rw [show Wire.feed ([], false) l = Wire.cut l from rfl] at hfr4 hr4 ⊢
  obtain ⟨Ao, co, rfl⟩ := hfr4.form
  have HK4 : Hid (Blk w4 w1.heap.size 45 #[.pointer (some ⟨w1.heap.size, 0, none⟩), .slice none 0 0, .bool false]) := (ht4.2.2.2.2 w1.heap.size (by omega) (fun e => hs12 e.symm) (by simp [Value.ownBlock])).trans (HR2.out.1.below HB3.out (by omega))
  have HB4 := hide ((HBw2.out.trans (HB3.out.mono (by omega))).trans (ht4.ge (B := w.heap.size) (by omega) (by omega) (HR1'.out.below HB3.out).2 hs1l))
  have HF4 := hide hfr4
  have HR4 := hide hr4
  have hs4 := ht4.2.2.2.1
  clear hfr4 hr4 ht4
  obtain ⟨E, hE⟩ : ∃ E : Int, E = (if (Wire.cut l).2.2 = true then 390 else 0) := ⟨_, rfl⟩
  rw [← hE]
  have HE := hide hE
  clear hE
  go_wp2_with fail
  go_loopw [9, 10, 11, 12] (fun got f fr i wr => ∃ (k j mid : Nat) (vc : Value), fr = .int .i64 (k : Nat) ∧ i = .int .i64 (j : Nat) ∧ k ≤ n ∧ j ≤ 300 ∧ Hid (f = .int .i64 (if (Wire.cut (l.take k)).2.2 = true then 390 else 0)) ∧
      w4.heap.size ≤ mid ∧ mid ≤ wr.heap.size ∧ FrB wr w4.heap.size mid got (Wire.cut (l.take k)).1 ∧ Rdr wr w1.heap.size mid vc (Wire.cut (l.take k)).2.1 (Wire.cut (l.take k)).2.2 ∧ Kp w4.heap.size w1.heap.size w4 wr) (fun _ _ _ i _ => 300 - (intOf i).toNat)
  case atStart => exact ⟨0, 0, w4.heap.size, .slice none 0 0, rfl, rfl, Nat.zero_le _, Nat.zero_le _, rfl, Nat.le_refl _, Nat.le_refl _, FrB.nil _ _ _, ⟨HK4.out, own_nil _ _ _ _⟩, Kp.refl _ _ _⟩
  case round =>
    obtain ⟨k, j, md, vc, rfl, rfl, hk, hj, HFv, hmd1, hmd2, hFB, hRc, hKp⟩ := hrel
    have hfv := HFv.out
    obtain ⟨F, hF⟩ : ∃ F : Int, F = (if (Wire.cut (l.take k)).2.2 = true then 390 else 0) := ⟨_, rfl⟩
    rw [← hF] at hfv
    subst hfv
    have HFV := hide hF
    have HFB := hide hFB
    have HRc := hide hRc
    have HKp := hide hKp
    have hsr := hKp.size
    clear HFv hF hFB hRc hKp
    have HBr := hide (HB4.out.trans (HKp.out.toBelow (B := w.heap.size) (by omega) (by omega)))
    by_cases hgo : j ≤ nc ∧ j < 300
    · obtain ⟨hj1, hj2⟩ := hgo
      by_cases hin : j < nc
      · obtain ⟨bz, oz, rfl, hbz, hcz⟩ := (HZ.out.below HBr.out (Nat.le_refl _)).2 (by omega)
        have hzl : zs.length = nc := by simpa using HZ.out.1
        have hcj := hcz j (.int .i64 (zs[j]'(by omega))) (by rw [List.getElem?_map, List.getElem?_eq_getElem (by omega)]; rfl)
        generalize zs[j]'(by omega) = z at hcj
        clear hcz hzl
        go_wp2_with fail
        refine (pick_any z ((n : Int) - k + 1) _ (by omega) (by omega)).mono ?_
        rintro e w' ⟨rfl, rfl⟩
        obtain ⟨p, hp, hpl⟩ : ∃ p : Nat, z % ((n : Int) - k + 1) = (p : Int) ∧ k + p ≤ n := by
          have h1 := Int.emod_nonneg z (show ((n : Int) - k + 1) ≠ 0 by omega)
          have h2 := Int.emod_lt_of_pos z (show 0 < ((n : Int) - k + 1) by omega)
          exact ⟨(z % ((n : Int) - k + 1)).toNat, by omega, by omega⟩
        rw [hp]
        clear hp
        by_cases hck : c = k
        · subst hck
          obtain rfl : p = 0 := by omega
          go_wp2_with fail
          obtain ⟨t, ht⟩ : ∃ t : Nat, t = c := ⟨_, rfl⟩
          have ht1 : c ≤ t := by omega
          have ht2 : t ≤ n := by omega
          have HT := hide ht
          clear ht
          have HY : Hid (Rb wr wr.heap.size (A) (0) ((l.take t).drop c)) := by rw [HT.out]; exact (by have := (HL.out.below HBr.out (Nat.le_refl _)).sub (i := c) (j := c) (cap := c) (by omega) hk hlc; rw [if_pos rfl, show c - c = 0 by omega] at this; exact this.more (by omega))
          have Hcut : Hid (Wire.cut (l.take t) = ((Wire.cut (l.take c)).1 ++ (Wire.feed (Wire.cut (l.take c)).2 ((l.take t).drop c)).1, (Wire.feed (Wire.cut (l.take c)).2 ((l.take t).drop c)).2)) := by
            show _ = _
            rw [← Wire.cut_feed, take_join l (ht1)]
          generalize (l.take t).drop c = y at HY Hcut
          obtain ⟨X, hX⟩ : ∃ X, X = Wire.cut (l.take c) := ⟨_, rfl⟩
          have hXl := Wire.cut_left_len (l.take c).length (l.take c) (Nat.le_refl _)
          have hYl := Wire.cut_left_len (l.take t).length (l.take t) (Nat.le_refl _)
          rw [Hcut.out] at hYl
          rw [← hX] at HFV HFB HRc Hcut hXl hYl
          obtain ⟨r, hr⟩ : ∃ r, r = Wire.feed X.2 y := ⟨_, rfl⟩
          have HXb : Hid (r.2.2 = false → X.2.2 = false) := fun h => Wire.feed_broken X.2 y (hr ▸ h)
          rw [← hr] at Hcut hYl
          rw [List.length_take, HL.out.len] at hXl hYl
          simp only [List.length_append] at hYl
          have hX1 : X.2.1.length ≤ 1048576 := by omega
          have hr1 : X.1.length + r.1.length ≤ 1048576 := by omega
          have HRr := hide hr
          clear hr hX hXl hYl
          refine (copyBytes_any (A) (0) (0) y _ HY.out (by omega)).mono ?_
          rintro e w5 ⟨v5, rfl, hown5, hb5⟩
          have HO5 := hide hown5
          have HB5 := hide hb5
          have hs5 := hb5.size
          clear hown5 hb5
          obtain ⟨A5, c5, rfl⟩ := own_sl HO5.out
          go_wp2_with fail
          refine (feed_made w1.heap.size md vc X.2.1 X.2.2 A5 (0) c5 y _ (HRc.out.below HB5.out) (Rb.own HO5.out) (by omega) (by omega)).mono ?_
          rintro e w6 ⟨vo6, v6, mid6, rfl, hm61, hm62, hfr6, hr6, ht6⟩
          rw [show Wire.feed (X.2.1, X.2.2) y = Wire.feed X.2 y from rfl, ← HRr.out] at hfr6 hr6 ⊢
          have hs6 := ht6.2.2.2.1
          obtain ⟨Ao6, co6, rfl⟩ := hfr6.form
          obtain ⟨xs, news, hx1, hx2, hx3, hx4⟩ := ((HFB.out.below HB5.out).turned (HRc.out.below HB5.out) ht6).append hfr6 (by omega) hm61
          have HX1 := hide hx1
          have HX2 := hide hx2
          have HX3 := hide hx3
          have HX4 := hide hx4
          have HR6 := hide hr6
          have HKp6 := hide ((HKp.out.trans (Kp.of_below HB5.out (by omega))).trans (Kp.of_turned ht6 (HRc.out.below HB5.out).2 hmd1 (by omega)))
          clear hx1 hx2 hx3 hx4 hfr6 hr6 ht6
          cases hrb : r.2.2 with
          | true =>
            have HRB := hide hrb
            clear hrb
            rw [if_pos rfl]
            go_wp2_with (at_builtin; refine wpList_append_rd _ rfl (.tmp 69) (.tmp 70) _ rfl w4.heap.size 42 iF _ 2 32 Try.underlying26 hiF hzF0 hzF1 hzF2 rfl (by omega) _ X.1.length xs rfl HX1.out _ _ r.1.length co6 news rfl HX2.out HX3.out (by unfold maxLen; omega) (by omega) (by omega) ?_; intro v7 w7 hown7 hb7 hg7; have HO7 := hide hown7; have HG7 := hide hg7; clear hown7 hb7 hg7)
            go_roundw
            case rel => exact ⟨t, j + 1, mid6, v6, by rw [HT.out]; skip, by go_num, by omega, by omega, by show _ = _; rw [Hcut.out, HRB.out]; rfl, by omega, by have := HG7.out.size; omega, by rw [Hcut.out]; exact HX4.out _ _ HO7.out HG7.out, by rw [Hcut.out]; exact ⟨HR6.out.1.grown HG7.out (fun e => own_blk_ne HX1.out HR6.out.1 (by decide) e.symm), HR6.out.2.kept HG7.out (own_own_ne HR6.out.2 HX1.out (by decide))⟩, HKp6.out.trans (Kp.of_grown HG7.out HX1.out (Nat.le_refl _) (by omega))⟩
            case measure => simp [intOf]; omega
          | false =>
            have HRB := hide hrb
            have HF0 : Hid (F = 0) := by
              have := HFV.out
              rw [HXb.out hrb] at this
              exact this
            clear hrb
            rw [if_neg (by decide)]
            go_wp2_with (at_builtin; refine wpList_append_rd _ rfl (.tmp 69) (.tmp 70) _ rfl w4.heap.size 42 iF _ 2 32 Try.underlying26 hiF hzF0 hzF1 hzF2 rfl (by omega) _ X.1.length xs rfl HX1.out _ _ r.1.length co6 news rfl HX2.out HX3.out (by unfold maxLen; omega) (by omega) (by omega) ?_; intro v7 w7 hown7 hb7 hg7; have HO7 := hide hown7; have HG7 := hide hg7; clear hown7 hb7 hg7)
            go_roundw
            case rel => exact ⟨t, j + 1, mid6, v6, by rw [HT.out]; skip, by go_num, by omega, by omega, by show _ = _; rw [Hcut.out, HRB.out, HF0.out]; rfl, by omega, by have := HG7.out.size; omega, by rw [Hcut.out]; exact HX4.out _ _ HO7.out HG7.out, by rw [Hcut.out]; exact ⟨HR6.out.1.grown HG7.out (fun e => own_blk_ne HX1.out HR6.out.1 (by decide) e.symm), HR6.out.2.kept HG7.out (own_own_ne HR6.out.2 HX1.out (by decide))⟩, HKp6.out.trans (Kp.of_grown HG7.out HX1.out (Nat.le_refl _) (by omega))⟩
            case measure => simp [intOf]; omega
        · go_wp2_with fail
          obtain ⟨t, ht⟩ : ∃ t : Nat, t = k + p := ⟨_, rfl⟩
          have ht1 : k ≤ t := by omega
          have ht2 : t ≤ n := by omega
          have HT := hide ht
          clear ht
          have HY : Hid (Rb wr wr.heap.size (Option.map (fun x => x.add k) A) (p) ((l.take t).drop k)) := by rw [HT.out]; exact (by have := (HL.out.below HBr.out (Nat.le_refl _)).sub (i := k) (j := k + p) (cap := c) (by omega) hpl hlc; rw [if_neg hck, show k + p - k = p by omega] at this; exact this.more (by omega))
          have Hcut : Hid (Wire.cut (l.take t) = ((Wire.cut (l.take k)).1 ++ (Wire.feed (Wire.cut (l.take k)).2 ((l.take t).drop k)).1, (Wire.feed (Wire.cut (l.take k)).2 ((l.take t).drop k)).2)) := by
            show _ = _
            rw [← Wire.cut_feed, take_join l (ht1)]
          generalize (l.take t).drop k = y at HY Hcut
          obtain ⟨X, hX⟩ : ∃ X, X = Wire.cut (l.take k) := ⟨_, rfl⟩
          have hXl := Wire.cut_left_len (l.take k).length (l.take k) (Nat.le_refl _)
          have hYl := Wire.cut_left_len (l.take t).length (l.take t) (Nat.le_refl _)
          rw [Hcut.out] at hYl
          rw [← hX] at HFV HFB HRc Hcut hXl hYl
          obtain ⟨r, hr⟩ : ∃ r, r = Wire.feed X.2 y := ⟨_, rfl⟩
          have HXb : Hid (r.2.2 = false → X.2.2 = false) := fun h => Wire.feed_broken X.2 y (hr ▸ h)
          rw [← hr] at Hcut hYl
          rw [List.length_take, HL.out.len] at hXl hYl
          simp only [List.length_append] at hYl
          have hX1 : X.2.1.length ≤ 1048576 := by omega
          have hr1 : X.1.length + r.1.length ≤ 1048576 := by omega
          have HRr := hide hr
          clear hr hX hXl hYl
          refine (copyBytes_any (Option.map (fun x => x.add k) A) (p) (c - k) y _ HY.out (by omega)).mono ?_
          rintro e w5 ⟨v5, rfl, hown5, hb5⟩
          have HO5 := hide hown5
          have HB5 := hide hb5
          have hs5 := hb5.size
          clear hown5 hb5
          obtain ⟨A5, c5, rfl⟩ := own_sl HO5.out
          go_wp2_with fail
          refine (feed_made w1.heap.size md vc X.2.1 X.2.2 A5 (p) c5 y _ (HRc.out.below HB5.out) (Rb.own HO5.out) (by omega) (by omega)).mono ?_
          rintro e w6 ⟨vo6, v6, mid6, rfl, hm61, hm62, hfr6, hr6, ht6⟩
          rw [show Wire.feed (X.2.1, X.2.2) y = Wire.feed X.2 y from rfl, ← HRr.out] at hfr6 hr6 ⊢
          have hs6 := ht6.2.2.2.1
          obtain ⟨Ao6, co6, rfl⟩ := hfr6.form
          obtain ⟨xs, news, hx1, hx2, hx3, hx4⟩ := ((HFB.out.below HB5.out).turned (HRc.out.below HB5.out) ht6).append hfr6 (by omega) hm61
          have HX1 := hide hx1
          have HX2 := hide hx2
          have HX3 := hide hx3
          have HX4 := hide hx4
          have HR6 := hide hr6
          have HKp6 := hide ((HKp.out.trans (Kp.of_below HB5.out (by omega))).trans (Kp.of_turned ht6 (HRc.out.below HB5.out).2 hmd1 (by omega)))
          clear hx1 hx2 hx3 hx4 hfr6 hr6 ht6
          cases hrb : r.2.2 with
          | true =>
            have HRB := hide hrb
            clear hrb
            rw [if_pos rfl]
            go_wp2_with (at_builtin; refine wpList_append_rd _ rfl (.tmp 69) (.tmp 70) _ rfl w4.heap.size 42 iF _ 2 32 Try.underlying26 hiF hzF0 hzF1 hzF2 rfl (by omega) _ X.1.length xs rfl HX1.out _ _ r.1.length co6 news rfl HX2.out HX3.out (by unfold maxLen; omega) (by omega) (by omega) ?_; intro v7 w7 hown7 hb7 hg7; have HO7 := hide hown7; have HG7 := hide hg7; clear hown7 hb7 hg7)
            go_roundw
            case rel => exact ⟨t, j + 1, mid6, v6, by rw [HT.out]; go_num, by go_num, by omega, by omega, by show _ = _; rw [Hcut.out, HRB.out]; rfl, by omega, by have := HG7.out.size; omega, by rw [Hcut.out]; exact HX4.out _ _ HO7.out HG7.out, by rw [Hcut.out]; exact ⟨HR6.out.1.grown HG7.out (fun e => own_blk_ne HX1.out HR6.out.1 (by decide) e.symm), HR6.out.2.kept HG7.out (own_own_ne HR6.out.2 HX1.out (by decide))⟩, HKp6.out.trans (Kp.of_grown HG7.out HX1.out (Nat.le_refl _) (by omega))⟩
            case measure => simp [intOf]; omega
          | false =>
            have HRB := hide hrb
            have HF0 : Hid (F = 0) := by
              have := HFV.out
              rw [HXb.out hrb] at this
              exact this
            clear hrb
            rw [if_neg (by decide)]
            go_wp2_with (at_builtin; refine wpList_append_rd _ rfl (.tmp 69) (.tmp 70) _ rfl w4.heap.size 42 iF _ 2 32 Try.underlying26 hiF hzF0 hzF1 hzF2 rfl (by omega) _ X.1.length xs rfl HX1.out _ _ r.1.length co6 news rfl HX2.out HX3.out (by unfold maxLen; omega) (by omega) (by omega) ?_; intro v7 w7 hown7 hb7 hg7; have HO7 := hide hown7; have HG7 := hide hg7; clear hown7 hb7 hg7)
            go_roundw
            case rel => exact ⟨t, j + 1, mid6, v6, by rw [HT.out]; go_num, by go_num, by omega, by omega, by show _ = _; rw [Hcut.out, HRB.out, HF0.out]; rfl, by omega, by have := HG7.out.size; omega, by rw [Hcut.out]; exact HX4.out _ _ HO7.out HG7.out, by rw [Hcut.out]; exact ⟨HR6.out.1.grown HG7.out (fun e => own_blk_ne HX1.out HR6.out.1 (by decide) e.symm), HR6.out.2.kept HG7.out (own_own_ne HR6.out.2 HX1.out (by decide))⟩, HKp6.out.trans (Kp.of_grown HG7.out HX1.out (Nat.le_refl _) (by omega))⟩
            case measure => simp [intOf]; omega
      · by_cases hck : c = k
        · subst hck
          obtain rfl : n = c := by omega
          go_wp2_with fail
          obtain ⟨t, ht⟩ : ∃ t : Nat, t = n := ⟨_, rfl⟩
          have ht1 : n ≤ t := by omega
          have ht2 : t ≤ n := by omega
          have HT := hide ht
          clear ht
          have HY : Hid (Rb wr wr.heap.size (A) (0) ((l.take t).drop n)) := by rw [HT.out]; exact (by have := (HL.out.below HBr.out (Nat.le_refl _)).sub (i := n) (j := n) (cap := n) (by omega) (Nat.le_refl _) hlc; rw [if_pos rfl, show n - n = 0 by omega] at this; exact this.more (by omega))
          have Hcut : Hid (Wire.cut (l.take t) = ((Wire.cut (l.take n)).1 ++ (Wire.feed (Wire.cut (l.take n)).2 ((l.take t).drop n)).1, (Wire.feed (Wire.cut (l.take n)).2 ((l.take t).drop n)).2)) := by
            show _ = _
            rw [← Wire.cut_feed, take_join l (ht1)]
          generalize (l.take t).drop n = y at HY Hcut
          obtain ⟨X, hX⟩ : ∃ X, X = Wire.cut (l.take n) := ⟨_, rfl⟩
          have hXl := Wire.cut_left_len (l.take n).length (l.take n) (Nat.le_refl _)
          have hYl := Wire.cut_left_len (l.take t).length (l.take t) (Nat.le_refl _)
          rw [Hcut.out] at hYl
          rw [← hX] at HFV HFB HRc Hcut hXl hYl
          obtain ⟨r, hr⟩ : ∃ r, r = Wire.feed X.2 y := ⟨_, rfl⟩
          have HXb : Hid (r.2.2 = false → X.2.2 = false) := fun h => Wire.feed_broken X.2 y (hr ▸ h)
          rw [← hr] at Hcut hYl
          rw [List.length_take, HL.out.len] at hXl hYl
          simp only [List.length_append] at hYl
          have hX1 : X.2.1.length ≤ 1048576 := by omega
          have hr1 : X.1.length + r.1.length ≤ 1048576 := by omega
          have HRr := hide hr
          clear hr hX hXl hYl
          refine (copyBytes_any (A) (0) (0) y _ HY.out (by omega)).mono ?_
          rintro e w5 ⟨v5, rfl, hown5, hb5⟩
          have HO5 := hide hown5
          have HB5 := hide hb5
          have hs5 := hb5.size
          clear hown5 hb5
          obtain ⟨A5, c5, rfl⟩ := own_sl HO5.out
          go_wp2_with fail
          refine (feed_made w1.heap.size md vc X.2.1 X.2.2 A5 (0) c5 y _ (HRc.out.below HB5.out) (Rb.own HO5.out) (by omega) (by omega)).mono ?_
          rintro e w6 ⟨vo6, v6, mid6, rfl, hm61, hm62, hfr6, hr6, ht6⟩
          rw [show Wire.feed (X.2.1, X.2.2) y = Wire.feed X.2 y from rfl, ← HRr.out] at hfr6 hr6 ⊢
          have hs6 := ht6.2.2.2.1
          obtain ⟨Ao6, co6, rfl⟩ := hfr6.form
          obtain ⟨xs, news, hx1, hx2, hx3, hx4⟩ := ((HFB.out.below HB5.out).turned (HRc.out.below HB5.out) ht6).append hfr6 (by omega) hm61
          have HX1 := hide hx1
          have HX2 := hide hx2
          have HX3 := hide hx3
          have HX4 := hide hx4
          have HR6 := hide hr6
          have HKp6 := hide ((HKp.out.trans (Kp.of_below HB5.out (by omega))).trans (Kp.of_turned ht6 (HRc.out.below HB5.out).2 hmd1 (by omega)))
          clear hx1 hx2 hx3 hx4 hfr6 hr6 ht6
          cases hrb : r.2.2 with
          | true =>
            have HRB := hide hrb
            clear hrb
            rw [if_pos rfl]
            go_wp2_with (at_builtin; refine wpList_append_rd _ rfl (.tmp 69) (.tmp 70) _ rfl w4.heap.size 42 iF _ 2 32 Try.underlying26 hiF hzF0 hzF1 hzF2 rfl (by omega) _ X.1.length xs rfl HX1.out _ _ r.1.length co6 news rfl HX2.out HX3.out (by unfold maxLen; omega) (by omega) (by omega) ?_; intro v7 w7 hown7 hb7 hg7; have HO7 := hide hown7; have HG7 := hide hg7; clear hown7 hb7 hg7)
            go_roundw
            case rel => exact ⟨t, j + 1, mid6, v6, by rw [HT.out]; skip, by go_num, by omega, by omega, by show _ = _; rw [Hcut.out, HRB.out]; rfl, by omega, by have := HG7.out.size; omega, by rw [Hcut.out]; exact HX4.out _ _ HO7.out HG7.out, by rw [Hcut.out]; exact ⟨HR6.out.1.grown HG7.out (fun e => own_blk_ne HX1.out HR6.out.1 (by decide) e.symm), HR6.out.2.kept HG7.out (own_own_ne HR6.out.2 HX1.out (by decide))⟩, HKp6.out.trans (Kp.of_grown HG7.out HX1.out (Nat.le_refl _) (by omega))⟩
            case measure => simp [intOf]; omega
          | false =>
            have HRB := hide hrb
            have HF0 : Hid (F = 0) := by
              have := HFV.out
              rw [HXb.out hrb] at this
              exact this
            clear hrb
            rw [if_neg (by decide)]
            go_wp2_with (at_builtin; refine wpList_append_rd _ rfl (.tmp 69) (.tmp 70) _ rfl w4.heap.size 42 iF _ 2 32 Try.underlying26 hiF hzF0 hzF1 hzF2 rfl (by omega) _ X.1.length xs rfl HX1.out _ _ r.1.length co6 news rfl HX2.out HX3.out (by unfold maxLen; omega) (by omega) (by omega) ?_; intro v7 w7 hown7 hb7 hg7; have HO7 := hide hown7; have HG7 := hide hg7; clear hown7 hb7 hg7)
            go_roundw
            case rel => exact ⟨t, j + 1, mid6, v6, by rw [HT.out]; skip, by go_num, by omega, by omega, by show _ = _; rw [Hcut.out, HRB.out, HF0.out]; rfl, by omega, by have := HG7.out.size; omega, by rw [Hcut.out]; exact HX4.out _ _ HO7.out HG7.out, by rw [Hcut.out]; exact ⟨HR6.out.1.grown HG7.out (fun e => own_blk_ne HX1.out HR6.out.1 (by decide) e.symm), HR6.out.2.kept HG7.out (own_own_ne HR6.out.2 HX1.out (by decide))⟩, HKp6.out.trans (Kp.of_grown HG7.out HX1.out (Nat.le_refl _) (by omega))⟩
            case measure => simp [intOf]; omega
        · go_wp2_with fail
          obtain ⟨t, ht⟩ : ∃ t : Nat, t = n := ⟨_, rfl⟩
          have ht1 : k ≤ t := by omega
          have ht2 : t ≤ n := by omega
          have HT := hide ht
          clear ht
          have HY : Hid (Rb wr wr.heap.size (Option.map (fun x => x.add k) A) (n - k) ((l.take t).drop k)) := by rw [HT.out]; exact (by have := (HL.out.below HBr.out (Nat.le_refl _)).sub (i := k) (j := n) (cap := c) hk (Nat.le_refl _) hlc; rw [if_neg hck] at this; exact this.more (by omega))
          have Hcut : Hid (Wire.cut (l.take t) = ((Wire.cut (l.take k)).1 ++ (Wire.feed (Wire.cut (l.take k)).2 ((l.take t).drop k)).1, (Wire.feed (Wire.cut (l.take k)).2 ((l.take t).drop k)).2)) := by
            show _ = _
            rw [← Wire.cut_feed, take_join l (ht1)]
          generalize (l.take t).drop k = y at HY Hcut
          obtain ⟨X, hX⟩ : ∃ X, X = Wire.cut (l.take k) := ⟨_, rfl⟩
          have hXl := Wire.cut_left_len (l.take k).length (l.take k) (Nat.le_refl _)
          have hYl := Wire.cut_left_len (l.take t).length (l.take t) (Nat.le_refl _)
          rw [Hcut.out] at hYl
          rw [← hX] at HFV HFB HRc Hcut hXl hYl
          obtain ⟨r, hr⟩ : ∃ r, r = Wire.feed X.2 y := ⟨_, rfl⟩
          have HXb : Hid (r.2.2 = false → X.2.2 = false) := fun h => Wire.feed_broken X.2 y (hr ▸ h)
          rw [← hr] at Hcut hYl
          rw [List.length_take, HL.out.len] at hXl hYl
          simp only [List.length_append] at hYl
          have hX1 : X.2.1.length ≤ 1048576 := by omega
          have hr1 : X.1.length + r.1.length ≤ 1048576 := by omega
          have HRr := hide hr
          clear hr hX hXl hYl
          refine (copyBytes_any (Option.map (fun x => x.add k) A) (n - k) (c - k) y _ HY.out (by omega)).mono ?_
          rintro e w5 ⟨v5, rfl, hown5, hb5⟩
          have HO5 := hide hown5
          have HB5 := hide hb5
          have hs5 := hb5.size
          clear hown5 hb5
          obtain ⟨A5, c5, rfl⟩ := own_sl HO5.out
          go_wp2_with fail
          refine (feed_made w1.heap.size md vc X.2.1 X.2.2 A5 (n - k) c5 y _ (HRc.out.below HB5.out) (Rb.own HO5.out) (by omega) (by omega)).mono ?_
          rintro e w6 ⟨vo6, v6, mid6, rfl, hm61, hm62, hfr6, hr6, ht6⟩
          rw [show Wire.feed (X.2.1, X.2.2) y = Wire.feed X.2 y from rfl, ← HRr.out] at hfr6 hr6 ⊢
          have hs6 := ht6.2.2.2.1
          obtain ⟨Ao6, co6, rfl⟩ := hfr6.form
          obtain ⟨xs, news, hx1, hx2, hx3, hx4⟩ := ((HFB.out.below HB5.out).turned (HRc.out.below HB5.out) ht6).append hfr6 (by omega) hm61
          have HX1 := hide hx1
          have HX2 := hide hx2
          have HX3 := hide hx3
          have HX4 := hide hx4
          have HR6 := hide hr6
          have HKp6 := hide ((HKp.out.trans (Kp.of_below HB5.out (by omega))).trans (Kp.of_turned ht6 (HRc.out.below HB5.out).2 hmd1 (by omega)))
          clear hx1 hx2 hx3 hx4 hfr6 hr6 ht6
          cases hrb : r.2.2 with
          | true =>
            have HRB := hide hrb
            clear hrb
            rw [if_pos rfl]
            go_wp2_with (at_builtin; refine wpList_append_rd _ rfl (.tmp 69) (.tmp 70) _ rfl w4.heap.size 42 iF _ 2 32 Try.underlying26 hiF hzF0 hzF1 hzF2 rfl (by omega) _ X.1.length xs rfl HX1.out _ _ r.1.length co6 news rfl HX2.out HX3.out (by unfold maxLen; omega) (by omega) (by omega) ?_; intro v7 w7 hown7 hb7 hg7; have HO7 := hide hown7; have HG7 := hide hg7; clear hown7 hb7 hg7)
            go_roundw
            case rel => exact ⟨t, j + 1, mid6, v6, by rw [HT.out]; skip, by go_num, by omega, by omega, by show _ = _; rw [Hcut.out, HRB.out]; rfl, by omega, by have := HG7.out.size; omega, by rw [Hcut.out]; exact HX4.out _ _ HO7.out HG7.out, by rw [Hcut.out]; exact ⟨HR6.out.1.grown HG7.out (fun e => own_blk_ne HX1.out HR6.out.1 (by decide) e.symm), HR6.out.2.kept HG7.out (own_own_ne HR6.out.2 HX1.out (by decide))⟩, HKp6.out.trans (Kp.of_grown HG7.out HX1.out (Nat.le_refl _) (by omega))⟩
            case measure => simp [intOf]; omega
          | false =>
            have HRB := hide hrb
            have HF0 : Hid (F = 0) := by
              have := HFV.out
              rw [HXb.out hrb] at this
              exact this
            clear hrb
            rw [if_neg (by decide)]
            go_wp2_with (at_builtin; refine wpList_append_rd _ rfl (.tmp 69) (.tmp 70) _ rfl w4.heap.size 42 iF _ 2 32 Try.underlying26 hiF hzF0 hzF1 hzF2 rfl (by omega) _ X.1.length xs rfl HX1.out _ _ r.1.length co6 news rfl HX2.out HX3.out (by unfold maxLen; omega) (by omega) (by omega) ?_; intro v7 w7 hown7 hb7 hg7; have HO7 := hide hown7; have HG7 := hide hg7; clear hown7 hb7 hg7)
            go_roundw
            case rel => exact ⟨t, j + 1, mid6, v6, by rw [HT.out]; skip, by go_num, by omega, by omega, by show _ = _; rw [Hcut.out, HRB.out, HF0.out]; rfl, by omega, by have := HG7.out.size; omega, by rw [Hcut.out]; exact HX4.out _ _ HO7.out HG7.out, by rw [Hcut.out]; exact ⟨HR6.out.1.grown HG7.out (fun e => own_blk_ne HX1.out HR6.out.1 (by decide) e.symm), HR6.out.2.kept HG7.out (own_own_ne HR6.out.2 HX1.out (by decide))⟩, HKp6.out.trans (Kp.of_grown HG7.out HX1.out (Nat.le_refl _) (by omega))⟩
            case measure => simp [intOf]; omega
    · have HGo := hide hgo
      clear hgo
      by_cases hjn : j ≤ nc
      · have hj3 : j = 300 := by have := HGo.out; omega
        subst hj3
        clear hj
        have HK := hide (Wire.cut_bodies l.length l (Nat.le_refl _))
        have hl8 := Wire.cut_left_len l.length l (Nat.le_refl _)
        have hlen := HL.out.len
        have hc8 : (Wire.cut l).1.length ≤ 1048576 := by omega
        have hsz := HKp.out.size
        clear hl8 hlen
        by_cases hkn : k < n
        · go_wp2_with fail
          refine (awake_any _).mono ?_
          rintro e w8 ⟨rfl, hb8⟩
          have HB8 := hide (HBr.out.trans (hb8.mono (by have := HBr.out.size; omega)))
          clear hb8
          go_wp2_with fail
          go_ret
          exact ⟨rfl, HB8.out⟩
        · obtain rfl : k = n := by omega
          have htk : l.take k = l := List.take_of_length_le (by rw [HL.out.len]; exact Nat.le_refl _)
          rw [htk] at HFV HFB HRc
          have hFE : F = E := HFV.out.trans HE.out.symm
          subst hFE
          obtain ⟨Ag, cg, rfl⟩ := HFB.out.form
          have HRG := hide (HFB.out.rd rfl (fun f hf => by have := HK.out f hf; omega))
          have HF' : Hid (FrOwn wr w3.heap.size mid (.slice Ao (Wire.cut l).1.length co) (Wire.cut l).1) := HF4.out.agree fun k h1 h2 => HKp.out.block k (by omega) (by omega)
          have HRA := hide (HF'.out.rd rfl (fun f hf => by have := HK.out f hf; omega))
          have HR4' : Hid (Rdr wr w.heap.size mid v4 (Wire.cut l).2.1 (Wire.cut l).2.2) := ⟨(HKp.out.block _ (by omega) hs12).trans HR4.out.1, own_agree HR4.out.2 fun k hk => HKp.out.block k (HR4.out.2.lt k hk).2 (fun e => by subst e; exact own_blk_ne HR4.out.2 HK4.out (by decide) hk)⟩
          go_wp2_with fail
          refine (sameFrames_any _ _ _ _ _ _ _ _ _ _ _ HRA.out HRG.out (by omega)).mono ?_
          rintro e w' ⟨rfl, q, rfl⟩
          rw [show decide ((Wire.cut l).1 = (Wire.cut l).1) = true from decide_eq_true rfl]
          have hFF : (F == F) = true := by simp
          go_wp2_with fail
          refine (left_ok _ _ _ _ _ _ (show Rdr (wr.drewN q) _ _ _ _ _ from HR4'.out)).mono ?_
          rintro e w' ⟨rfl, rfl⟩
          go_wp2_with fail
          refine (left_ok _ _ _ _ _ _ (show Rdr (wr.drewN q) _ _ _ _ _ from HRc.out)).mono ?_
          rintro e w' ⟨rfl, rfl⟩
          have hLL : (((Wire.cut l).2.1.length : Int) == ((Wire.cut l).2.1.length : Int)) = true := by simp
          go_wp2_with fail
          refine (awake_any _).mono ?_
          rintro e w8 ⟨rfl, hb8⟩
          have HB8 := hide ((below_drewN HBr.out q).trans (hb8.mono (by have := HBr.out.size; exact this)))
          clear hb8
          go_wp2_with fail
          go_ret
          exact ⟨rfl, HB8.out⟩
      · clear hj
        have HK := hide (Wire.cut_bodies l.length l (Nat.le_refl _))
        have hl8 := Wire.cut_left_len l.length l (Nat.le_refl _)
        have hlen := HL.out.len
        have hc8 : (Wire.cut l).1.length ≤ 1048576 := by omega
        have hsz := HKp.out.size
        clear hl8 hlen
        by_cases hkn : k < n
        · go_wp2_with fail
          refine (awake_any _).mono ?_
          rintro e w8 ⟨rfl, hb8⟩
          have HB8 := hide (HBr.out.trans (hb8.mono (by have := HBr.out.size; omega)))
          clear hb8
          go_wp2_with fail
          go_ret
          exact ⟨rfl, HB8.out⟩
        · obtain rfl : k = n := by omega
          have htk : l.take k = l := List.take_of_length_le (by rw [HL.out.len]; exact Nat.le_refl _)
          rw [htk] at HFV HFB HRc
          have hFE : F = E := HFV.out.trans HE.out.symm
          subst hFE
          obtain ⟨Ag, cg, rfl⟩ := HFB.out.form
          have HRG := hide (HFB.out.rd rfl (fun f hf => by have := HK.out f hf; omega))
          have HF' : Hid (FrOwn wr w3.heap.size mid (.slice Ao (Wire.cut l).1.length co) (Wire.cut l).1) := HF4.out.agree fun k h1 h2 => HKp.out.block k (by omega) (by omega)
          have HRA := hide (HF'.out.rd rfl (fun f hf => by have := HK.out f hf; omega))
          have HR4' : Hid (Rdr wr w.heap.size mid v4 (Wire.cut l).2.1 (Wire.cut l).2.2) := ⟨(HKp.out.block _ (by omega) hs12).trans HR4.out.1, own_agree HR4.out.2 fun k hk => HKp.out.block k (HR4.out.2.lt k hk).2 (fun e => by subst e; exact own_blk_ne HR4.out.2 HK4.out (by decide) hk)⟩
          go_wp2_with fail
          refine (sameFrames_any _ _ _ _ _ _ _ _ _ _ _ HRA.out HRG.out (by omega)).mono ?_
          rintro e w' ⟨rfl, q, rfl⟩
          rw [show decide ((Wire.cut l).1 = (Wire.cut l).1) = true from decide_eq_true rfl]
          have hFF : (F == F) = true := by simp
          go_wp2_with fail
          refine (left_ok _ _ _ _ _ _ (show Rdr (wr.drewN q) _ _ _ _ _ from HR4'.out)).mono ?_
          rintro e w' ⟨rfl, rfl⟩
          go_wp2_with fail
          refine (left_ok _ _ _ _ _ _ (show Rdr (wr.drewN q) _ _ _ _ _ from HRc.out)).mono ?_
          rintro e w' ⟨rfl, rfl⟩
          have hLL : (((Wire.cut l).2.1.length : Int) == ((Wire.cut l).2.1.length : Int)) = true := by simp
          go_wp2_with fail
          refine (awake_any _).mono ?_
          rintro e w8 ⟨rfl, hb8⟩
          have HB8 := hide ((below_drewN HBr.out q).trans (hb8.mono (by have := HBr.out.size; exact this)))
          clear hb8
          go_wp2_with fail
          go_ret
          exact ⟨rfl, HB8.out⟩
end Go.Proofs.Ytnieenlnpnaamaa
