/-
  The walk of the law PageBack: it returns true. Conditions: the page's cells read as a list.
-/
import Derived.Test.YtpoilndlfbmhgaaSplit
import Derived.Test.YtpoilndlfbmhgaaPageTellsW
import Derived.Test.YtpoilndlfbmhgaaKeep
namespace Go.Proofs.Ytpoilndlfbmhgaa
open Go.RowKit

namespace Pag
theorem pack_cases (p : Pg) : pack p = (2, []) ∨ pack p = (5, []) ∨ ∃ b, pack p = (0, b) := by
  unfold pack
  split
  · exact .inl rfl
  · split
    · exact .inr (.inl rfl)
    · exact .inr (.inr ⟨_, rfl⟩)
end Pag
theorem gk_of {j h0 : Nat} {Φ : Fact} (i : Nat) {w w' : World} (hi : i ≠ j) (h : Below w.heap.size w w') : GrK j h0 Φ i w w' := by
  unfold GrK
  rw [if_neg hi]
  exact h
theorem gk_at {j h0 : Nat} {Φ : Fact} {w w' : World} (h : Below h0 w w' ∧ ∀ u, Φ u w → Φ u w') : GrK j h0 Φ j w w' := by
  unfold GrK
  rw [if_pos rfl]
  exact h
set_option linter.unusedVariables false in
set_option maxRecDepth 100000 in
set_option maxHeartbeats 4000000 in
theorem pageBack_any (kd : UInt8) (nx : Int) (A : Option Addr) (n c : Nat) (cs : List Pag.Ce) (w : World) (hl : CeRd w w.heap.size A n cs) (hn : n ≤ 2932031007402) :
    Calls Try.prog 4 #[.agg #[.int .u8 (kd.toNat : Int), .int .i64 nx, .slice A n c]] w fun e w' => e = .returned (.bool true) ∧ Below w.heap.size w w' := by
  have HL := hide hl
  have HN := hide hl.1
  clear hl
  obtain ⟨w1, hw1⟩ : ∃ w1, w1 = w.alloc (.cells #[.int .u8 (kd.toNat : Int), .int .i64 nx, .slice A n c] 25) := ⟨_, rfl⟩
  have HP1 : Hid (Blk w1 w.heap.size 25 #[.int .u8 (kd.toNat : Int), .int .i64 nx, .slice A n c]) := by rw [hw1]; exact Blk.new _ _ _
  have HB1 : Hid (Below w.heap.size w w1) := by rw [hw1]; exact (Below.refl _ _).alloc (Nat.le_refl _) _
  have hs1 : w.heap.size < w1.heap.size := by rw [hw1]; simp
  have p0 := HP1.out.cell 0
  have p1 := HP1.out.cell 1
  have p2 := HP1.out.cell 2
  simp at p0 p1 p2
  go_enter Try.func4, Try.ntmps4
  go_upto_region 1 with fail
  rw [← hw1]
  clear hw1
  go_wp2_with fail
  have cp := pack_any kd nx A n c cs w1 ((HL.out.below HB1.out (Nat.le_refl _)).more (by omega)) (by omega)
  with_reducible refine cp.mono ?_
  clear cp
  rintro e w2 ⟨v2, rfl, hown2, hb2⟩
  have HB2 := hide (HB1.out.trans (hb2.mono (Nat.le_of_lt hs1)))
  have HP2 := hide (HP1.out.below hb2 hs1)
  have hs2 := hb2.size
  have HL2 := hide ((HL.out.below HB2.out (Nat.le_refl _)).more (C := w2.heap.size) (by omega))
  clear hb2 p0 p1 p2
  have p0 := HP2.out.cell 0
  have p1 := HP2.out.cell 1
  have p2 := HP2.out.cell 2
  simp at p0 p1 p2
  rcases Pag.pack_cases ⟨kd, nx, cs⟩ with hp | hp | ⟨b, hp⟩
  · rw [hp] at hown2 ⊢
    simp only [List.length_nil, List.map_nil] at hown2 ⊢
    obtain ⟨A2, c2, rfl⟩ := own_sl hown2
    clear hown2 hp
    go_wp2_with fail
    with_reducible refine (awake_any _).mono ?_
    rintro e w3 ⟨rfl, hb3⟩
    have HB3 := hide (HB2.out.trans (hb3.mono (by omega)))
    clear hb3 p0 p1 p2
    go_wp2_with fail
    go_ret
    exact ⟨rfl, HB3.out⟩
  · rw [hp] at hown2 ⊢
    simp only [List.length_nil, List.map_nil] at hown2 ⊢
    obtain ⟨A2, c2, rfl⟩ := own_sl hown2
    clear hown2 hp
    go_wp2_with fail
    with_reducible refine (awake_any _).mono ?_
    rintro e w3 ⟨rfl, hb3⟩
    have HB3 := hide (HB2.out.trans (hb3.mono (by omega)))
    clear hb3 p0 p1 p2
    go_wp2_with fail
    go_ret
    exact ⟨rfl, HB3.out⟩
  · rw [hp] at hown2 ⊢
    have HUq := hide (Pag.unpB_of_pack hp)
    have hbl := Pag.pack_len hp
    simp only at hown2 ⊢
    rw [hbl] at hown2
    obtain ⟨A2, c2, rfl, _, hc2a, hc2b⟩ := own_form hown2
    have HO2 := hide hown2
    have HRb := hide (Rb.own (l := b) hown2)
    have HHp := hide hp
    unfold maxLen at hc2b
    obtain ⟨hr1, hr2, hr3⟩ := Pag.unpB_right HUq.out
    simp only at hr2 hr3
    have HRr := hide hr1
    have HRt := hide hr2
    have hnl : n ≤ 1000 := by rw [HN.out]; exact hr3
    clear hown2 hp hbl hr1 hr2 hr3
    go_wp2_with fail
    with_reducible refine (unpack_any A2 4080 c2 b _ HRb.out (by omega) hc2a (by omega)).mono ?_
    rintro e w3 ⟨hb3, hr⟩
    rw [HUq.out] at hr
    obtain ⟨v, rfl, hpg⟩ := hr
    obtain ⟨Aq, cq, rfl, hown⟩ := hpg.form
    obtain ⟨m, hm⟩ : ∃ m, m = cs.length := ⟨_, rfl⟩
    rw [← hm] at hown ⊢
    have HM := hide hm
    have hmn : m = n := by rw [HN.out]; exact hm
    have hm1 : m ≤ 1000 := by omega
    have hs3 := hb3.size
    obtain ⟨w4, hw4⟩ : ∃ w4, w4 = w3.alloc (.cells #[.int .u8 (kd.toNat : Int), .int .i64 nx, .slice Aq m cq] 25) := ⟨_, rfl⟩
    have hb4 : Below w3.heap.size w3 w4 := by rw [hw4]; exact (Below.refl _ _).alloc (Nat.le_refl _) _
    have HQ4 : Hid (Blk w4 w3.heap.size 25 #[.int .u8 (kd.toNat : Int), .int .i64 nx, .slice Aq m cq]) := by rw [hw4]; exact Blk.new _ _ _
    have hs4 : w3.heap.size < w4.heap.size := by rw [hw4]; simp
    have hb24 : Below w2.heap.size w2 w4 := hb3.trans (hb4.mono hs3)
    have HB4 := hide (HB2.out.trans (hb24.mono (by omega)))
    have HP4 := hide (HP2.out.below hb24 (by omega))
    have HRb4 := hide ((HRb.out.below hb24 (Nat.le_refl _)).more (B' := w4.heap.size) (by omega))
    have HO4 := hide (hown.below hb4 hs3)
    have HL4 := hide ((HL2.out.below hb24 (Nat.le_refl _)).more (C := w4.heap.size) (by omega))
    clear hm hown hb3 hb4 hb24 hpg p0 p1 p2 hmn
    go_upto_region 5 with fail
    rw [← hw4]
    clear hw4
    have p0 := HP4.out.cell 0
    have p1 := HP4.out.cell 1
    have p2 := HP4.out.cell 2
    have q0 := HQ4.out.cell 0
    have q1 := HQ4.out.cell 1
    have q2 := HQ4.out.cell 2
    simp at p0 p1 p2 q0 q1 q2
    go_wp2_with fail
    have cp := samePage_any kd nx A n c cs kd nx Aq m cq cs w4 HL4.out (HO4.out.rd HM.out (by omega)) (by unfold maxLen; omega) (by unfold maxLen; omega)
    rw [pgB_refl] at cp
    with_reducible refine cp.mono ?_
    clear cp
    rintro e w5 ⟨rfl, hb5⟩
    have hs5 := hb5.size
    have HB5 := hide (HB4.out.trans (hb5.mono (by omega)))
    have HP5 := hide (HP4.out.below hb5 (by omega))
    have HRb5 := hide ((HRb4.out.below hb5 (Nat.le_refl _)).more hs5)
    have HL5 := hide ((HL4.out.below hb5 (Nat.le_refl _)).more hs5)
    clear hb5 p0 p1 p2 q0 q1 q2
    have p0 := HP5.out.cell 0
    have p1 := HP5.out.cell 1
    have p2 := HP5.out.cell 2
    simp at p0 p1 p2
    go_wp2_with fail
    with_reducible refine (split_any A2 4080 c2 b _ HRb5.out (by omega) hc2a (by omega)).mono ?_
    rintro e w6 ⟨hb6, va, vb, vc, rfl, h1, h2, h3⟩
    have hs6 := hb6.size
    have HB6 := hide (HB5.out.trans (hb6.mono (by omega)))
    have HP6 := hide (HP5.out.below hb6 (by omega))
    have HL6 := hide ((HL5.out.below hb6 (Nat.le_refl _)).more hs6)
    clear hb6 p0 p1 p2
    have p0 := HP6.out.cell 0
    have p1 := HP6.out.cell 1
    have p2 := HP6.out.cell 2
    simp at p0 p1 p2
    by_cases hl2 : cs.length < 2
    · rw [Pag.splitB_few HUq.out hl2] at h1 h2 h3 ⊢
      simp only at h1 h2 h3 ⊢
      have hn2 : n < 2 := by rw [HN.out]; exact hl2
      clear h1 h2 h3 hl2
      go_wp2_with fail
      with_reducible refine (awake_any _).mono ?_
      rintro e w7 ⟨rfl, hb7⟩
      have HB7 := hide (HB6.out.trans (hb7.mono (by omega)))
      clear hb7 p0 p1 p2
      go_wp2_with fail
      go_ret
      exact ⟨rfl, HB7.out⟩
    · obtain ⟨xa, xb, hA, hB, la, lb⟩ := Pag.parts_pack HRr.out HRt.out (show 2 ≤ cs.length by omega)
      obtain ⟨s1, s2⟩ := Pag.splitN_le (show 2 ≤ cs.length by omega)
      obtain ⟨j, hj⟩ : ∃ j, j = Pag.splitN cs := ⟨_, rfl⟩
      rw [← hj] at s1 s2
      obtain ⟨f, hf⟩ : ∃ f, cs[j]? = some f := ⟨cs[j]'(by omega), List.getElem?_eq_getElem (by omega)⟩
      rw [Pag.splitB_yes HUq.out hl2 hA hB (by show cs[Pag.splitN cs]? = _; rw [← hj]; exact hf)] at h1 h2 h3 ⊢
      simp only at h1 h2 h3 ⊢
      have HUA : Hid (Pag.unpB xa = some ⟨kd, 0, cs.take j⟩) := by rw [hj]; exact Pag.unpB_of_pack hA
      have HUB : Hid (Pag.unpB xb = some ⟨kd, nx, cs.drop j⟩) := by rw [hj]; exact Pag.unpB_of_pack hB
      obtain ⟨Aa, ca, rfl, ha1, ha2, ha3, ha4⟩ := h1.bd (by omega)
      obtain ⟨Ab, cb, rfl, hb1, hb2, hb3, hb4⟩ := h2.bd (by omega)
      obtain ⟨Ac, cc, rfl, hc1, hc2, hc3, hc4⟩ := h3.bd (by omega)
      rw [la] at ha1 ha3 ⊢
      rw [lb] at hb1 hb3 ⊢
      have HRa := hide ha1
      have HRbb := hide hb1
      have HRc := hide hc1
      have HF := hide hf
      have hjm : j < m := by rw [HM.out]; omega
      have hj1 : 1 ≤ j := s1
      clear h1 h2 h3 hA hB la lb hj hf ha1 hb1 hc1 s1 s2 hl2 ha2 hb2
      go_wp2_with fail
      with_reducible refine (unpack_any Aa 4080 ca xa _ HRa.out (by omega) ha3 ha4).mono ?_
      rintro e w7 ⟨hb7, hr⟩
      rw [HUA.out] at hr
      obtain ⟨v7, rfl, hpg⟩ := hr
      obtain ⟨Ax, cx, rfl, hown⟩ := hpg.form
      have hj' : (cs.take j).length = j := by rw [List.length_take, ← HM.out]; omega
      rw [hj'] at hown ⊢
      have HJ := hide hj'
      have hs7 := hb7.size
      obtain ⟨w8, hw8⟩ : ∃ w8, w8 = w7.alloc (.cells #[.int .u8 (kd.toNat : Int), .int .i64 0, .slice Ax j cx] 25) := ⟨_, rfl⟩
      have hb8 : Below w7.heap.size w7 w8 := by rw [hw8]; exact (Below.refl _ _).alloc (Nat.le_refl _) _
      have HX8 : Hid (Blk w8 w7.heap.size 25 #[.int .u8 (kd.toNat : Int), .int .i64 0, .slice Ax j cx]) := by rw [hw8]; exact Blk.new _ _ _
      have hs8 : w7.heap.size < w8.heap.size := by rw [hw8]; simp
      have hb68 : Below w6.heap.size w6 w8 := hb7.trans (hb8.mono hs7)
      have HB8 := hide (HB6.out.trans (hb68.mono (by omega)))
      have HP8 := hide (HP6.out.below hb68 (by omega))
      have HRbb8 := hide ((HRbb.out.below hb68 (Nat.le_refl _)).more (B' := w8.heap.size) (by omega))
      have HRc8 := hide ((HRc.out.below hb68 (Nat.le_refl _)).more (B' := w8.heap.size) (by omega))
      have HOx := hide ((hown.rd HJ.out.symm hs7).below hb8 (Nat.le_refl _))
      have HL8 := hide ((HL6.out.below hb68 (Nat.le_refl _)).more (C := w8.heap.size) (by omega))
      clear hj' hown hb7 hb8 hb68 hpg p0 p1 p2
      go_upto_region 11 with fail
      rw [← hw8]
      clear hw8
      go_wp2_with fail
      with_reducible refine (unpack_any Ab 4080 cb xb _ HRbb8.out (by omega) hb3 hb4).mono ?_
      rintro e w9 ⟨hb9, hr⟩
      rw [HUB.out] at hr
      obtain ⟨v9, rfl, hpg⟩ := hr
      obtain ⟨Ay, cy, rfl, hown⟩ := hpg.form
      obtain ⟨k, hk⟩ : ∃ k, k = (cs.drop j).length := ⟨_, rfl⟩
      rw [← hk] at hown ⊢
      have HKd := hide hk
      have hk2 : k = m - j := by rw [hk, List.length_drop, ← HM.out]
      have hk1 : 1 ≤ k := by omega
      have hk3 : k ≤ 1000 := by omega
      have hs9 := hb9.size
      obtain ⟨w10, hw10⟩ : ∃ w10, w10 = w9.alloc (.cells #[.int .u8 (kd.toNat : Int), .int .i64 nx, .slice Ay k cy] 25) := ⟨_, rfl⟩
      have hb10 : Below w9.heap.size w9 w10 := by rw [hw10]; exact (Below.refl _ _).alloc (Nat.le_refl _) _
      have HY10 : Hid (Blk w10 w9.heap.size 25 #[.int .u8 (kd.toNat : Int), .int .i64 nx, .slice Ay k cy]) := by rw [hw10]; exact Blk.new _ _ _
      have hs10 : w9.heap.size < w10.heap.size := by rw [hw10]; simp
      have hb810 : Below w8.heap.size w8 w10 := hb9.trans (hb10.mono hs9)
      have HB10 := hide (HB8.out.trans (hb810.mono (by omega)))
      have HP10 := hide (HP8.out.below hb810 (by omega))
      have HX10 := hide (HX8.out.below hb810 hs8)
      have HRc10 := hide ((HRc8.out.below hb810 (Nat.le_refl _)).more (B' := w10.heap.size) (by omega))
      have HOx10 := hide ((HOx.out.below hb810 (by omega)).more (C := w10.heap.size) (by omega))
      have hoy := (hown.rd HKd.out hs9).below hb10 (Nat.le_refl _)
      have HOy10 := hide (hoy.more (C := w10.heap.size) (Nat.le_of_lt hs10))
      have HL10 := hide ((HL8.out.below hb810 (Nat.le_refl _)).more (C := w10.heap.size) (by omega))
      have hgp : w.heap.size < w10.heap.size := HP10.out.lt
      have hgx : w7.heap.size < w10.heap.size := HX10.out.lt
      have hgy : w9.heap.size < w10.heap.size := HY10.out.lt
      obtain ⟨gy, offy, f', Ak, ck, Av, cv, rfl, hgz, hf', z0, _, hrz, _, _, _, _, _, _, _⟩ := HOy10.out.at (i := 0) (by omega)
      rw [List.getElem?_drop, Nat.add_zero, HF.out] at hf'
      obtain rfl := Option.some.inj hf'
      rw [Nat.zero_mul, Nat.add_zero] at z0
      have HRz := hide hrz
      have hk0 : 0 < k := by omega
      clear hown hb9 hb10 hb810 hpg hk hoy hk2 hf' hrz
      have p0 := HP10.out.cell 0
      have p1 := HP10.out.cell 1
      have p2 := HP10.out.cell 2
      have x0 := HX10.out.cell 0
      have x1 := HX10.out.cell 1
      have x2 := HX10.out.cell 2
      have y0 := HY10.out.cell 0
      have y1 := HY10.out.cell 1
      have y2 := HY10.out.cell 2
      simp at p0 p1 p2 x0 x1 x2 y0 y1 y2
      go_upto_region 12 with fail
      rw [← hw10]
      clear hw10
      simp only [List.append_eq, List.cons_append, List.nil_append]
      have hTs := tab_stable (l := [(49, NoF), (54, (fun u w => w10.heap.size ≤ w.heap.size ∧ CeOwn w w10.heap.size w10.heap.size u (cs.take j))), (57, (fun u w => w10.heap.size ≤ w.heap.size ∧ CeOwn w w10.heap.size w10.heap.size u cs)), (60, NoF), (63, NoF)]) (fun p hp => by
          simp only [List.mem_cons, List.not_mem_nil, or_false] at hp
          rcases hp with rfl | rfl | rfl | rfl | rfl
          · exact NoF.stable
          · exact fun _ _ _ hu hb => ⟨Nat.le_trans hu.1 hb.size, hu.2.below hb hu.1⟩
          · exact fun _ _ _ hu hb => ⟨Nat.le_trans hu.1 hb.size, hu.2.below hb hu.1⟩
          · exact NoF.stable
          · exact NoF.stable)
      have hSs := shp_some (l := [(49, IsV (.bool true)), (54, IsSl j), (57, IsSl m), (60, IsV (.bool true)), (63, IsV (.bool true))]) (fun p hp => by
          simp only [List.mem_cons, List.not_mem_nil, or_false] at hp
          rcases hp with rfl | rfl | rfl | rfl | rfl
          · exact IsV.some _
          · exact IsSl.some _
          · exact IsSl.some _
          · exact IsV.some _
          · exact IsV.some _)
      have hRk : Turns false (GrK 57 w10.heap.size (fun u w => w10.heap.size ≤ w.heap.size ∧ CeOwn w w10.heap.size w10.heap.size u (cs.take j))) (Up w10) w10.heap.size (tab _) := GrK.turns hTs (fun i Ψ hi hΨ => by
        unfold tab at hΨ
        obtain ⟨q, hq, rfl⟩ := Option.map_eq_some_iff.1 hΨ
        have hq1 := List.mem_of_find?_eq_some hq
        have hq2 := List.find?_some hq
        simp only [List.mem_cons, List.not_mem_nil, or_false] at hq1
        rcases hq1 with rfl | rfl | rfl | rfl | rfl
        · exact fun _ _ _ _ _ => trivial
        · exact fun v w w' hv hr => hr.2 v hv
        · exact absurd (by simpa using hq2) (Ne.symm hi)
        · exact fun _ _ _ _ _ => trivial
        · exact fun _ _ _ _ _ => trivial)
      have HRk := hide hRk
      clear hRk
      have HTs := hide hTs
      have HSs := hide hSs
      clear hTs hSs
      refine wp_region_toldL (tab [(49, NoF), (54, (fun u w => w10.heap.size ≤ w.heap.size ∧ CeOwn w w10.heap.size w10.heap.size u (cs.take j))), (57, (fun u w => w10.heap.size ≤ w.heap.size ∧ CeOwn w w10.heap.size w10.heap.size u cs)), (60, NoF), (63, NoF)]) (Up w10) (w10.heap.size) 66 (shp [(49, IsV (.bool true)), (54, IsSl j), (57, IsSl m), (60, IsV (.bool true)), (63, IsV (.bool true))]) (HSs.out) (HTs.out) (Up.lives _) (GrK 57 w10.heap.size (fun u w => w10.heap.size ≤ w.heap.size ∧ CeOwn w w10.heap.size w10.heap.size u (cs.take j))) HRk.out (by kernel_rfl) (by kernel_rfl) (Up.start _) (Nat.le_refl _) ?_
      simp only [List.take_succ_cons, List.take_zero, List.drop_succ_cons, List.drop_zero]
      refine wpTold_read ?_ rfl rfl (fun w' hS => ?_) ?_
      rotate_left
      · go_simp
        rfl
      go_frame
      refine wpTold_read ?_ rfl rfl (fun w' hS => ?_) ?_
      rotate_left
      · go_simp
        rfl
      go_frame
      refine wpTold_read ?_ rfl rfl (fun w' hS => ?_) ?_
      rotate_left
      · go_simp
        rfl
      go_frame
      refine wpTold_read ?_ rfl rfl (fun w' hS => ?_) ?_
      rotate_left
      · go_simp
        rfl
      go_frame
      refine wpTold_read ?_ rfl rfl (fun w' hS => ?_) ?_
      rotate_left
      · go_simp
        rfl
      go_frame
      refine wpTold_read ?_ rfl rfl (fun w' hS => ?_) ?_
      rotate_left
      · go_simp
        rfl
      go_frame
      refine wpTold_read ?_ rfl rfl (fun w' hS => ?_) ?_
      rotate_left
      · have p0' := (hS.cell (p := ⟨w.heap.size, 0, none⟩) hgp).trans p0
        have p1' := (hS.cell (p := ⟨w.heap.size, 1, none⟩) hgp).trans p1
        have p2' := (hS.cell (p := ⟨w.heap.size, 2, none⟩) hgp).trans p2
        have x0' := (hS.cell (p := ⟨w7.heap.size, 0, none⟩) hgx).trans x0
        have x1' := (hS.cell (p := ⟨w7.heap.size, 1, none⟩) hgx).trans x1
        have x2' := (hS.cell (p := ⟨w7.heap.size, 2, none⟩) hgx).trans x2
        have y0' := (hS.cell (p := ⟨w9.heap.size, 0, none⟩) hgy).trans y0
        have y1' := (hS.cell (p := ⟨w9.heap.size, 1, none⟩) hgy).trans y1
        have y2' := (hS.cell (p := ⟨w9.heap.size, 2, none⟩) hgy).trans y2
        have z0' := (hS.cell (p := ⟨gy, offy, none⟩) hgz).trans z0
        go_simp
        rfl
      go_frame
      refine wpTold_read ?_ rfl rfl (fun w' hS => ?_) ?_
      rotate_left
      · go_simp
        rfl
      go_frame
      refine wpTold_read ?_ rfl rfl (fun w' hS => ?_) ?_
      rotate_left
      · have tj : 0 < j := by omega
        go_simp
        rfl
      go_frame
      refine wpTold_read ?_ rfl rfl (fun w' hS => ?_) ?_
      rotate_left
      · go_simp
        rfl
      go_frame
      refine wpTold_read ?_ rfl rfl (fun w' hS => ?_) ?_
      rotate_left
      · go_simp
        rfl
      go_frame
      refine wpTold_read ?_ rfl rfl (fun w' hS => ?_) ?_
      rotate_left
      · go_simp
        rfl
      go_frame
      refine wpTold_read ?_ rfl rfl (fun w' hS => ?_) ?_
      rotate_left
      · have p0' := (hS.cell (p := ⟨w.heap.size, 0, none⟩) hgp).trans p0
        have p1' := (hS.cell (p := ⟨w.heap.size, 1, none⟩) hgp).trans p1
        have p2' := (hS.cell (p := ⟨w.heap.size, 2, none⟩) hgp).trans p2
        have x0' := (hS.cell (p := ⟨w7.heap.size, 0, none⟩) hgx).trans x0
        have x1' := (hS.cell (p := ⟨w7.heap.size, 1, none⟩) hgx).trans x1
        have x2' := (hS.cell (p := ⟨w7.heap.size, 2, none⟩) hgx).trans x2
        have y0' := (hS.cell (p := ⟨w9.heap.size, 0, none⟩) hgy).trans y0
        have y1' := (hS.cell (p := ⟨w9.heap.size, 1, none⟩) hgy).trans y1
        have y2' := (hS.cell (p := ⟨w9.heap.size, 2, none⟩) hgy).trans y2
        have z0' := (hS.cell (p := ⟨gy, offy, none⟩) hgz).trans z0
        go_simp
        rfl
      go_frame
      refine wpTold_read ?_ rfl rfl (fun w' hS => ?_) ?_
      rotate_left
      · go_simp
        rfl
      go_frame
      refine wpTold_read ?_ rfl rfl (fun w' hS => ?_) ?_
      rotate_left
      · have tk : 0 < k := by omega
        go_simp
        rfl
      go_frame
      refine wpTold_read ?_ rfl rfl (fun w' hS => ?_) ?_
      rotate_left
      · go_simp
        rfl
      go_frame
      refine wpTold_read ?_ rfl rfl (fun w' hS => ?_) ?_
      rotate_left
      · go_simp
        rfl
      go_frame
      refine wpTold_read ?_ rfl rfl (fun w' hS => ?_) ?_
      rotate_left
      · go_simp
        rfl
      go_frame
      refine wpTold_read ?_ rfl rfl (fun w' hS => ?_) ?_
      rotate_left
      · have p0' := (hS.cell (p := ⟨w.heap.size, 0, none⟩) hgp).trans p0
        have p1' := (hS.cell (p := ⟨w.heap.size, 1, none⟩) hgp).trans p1
        have p2' := (hS.cell (p := ⟨w.heap.size, 2, none⟩) hgp).trans p2
        have x0' := (hS.cell (p := ⟨w7.heap.size, 0, none⟩) hgx).trans x0
        have x1' := (hS.cell (p := ⟨w7.heap.size, 1, none⟩) hgx).trans x1
        have x2' := (hS.cell (p := ⟨w7.heap.size, 2, none⟩) hgx).trans x2
        have y0' := (hS.cell (p := ⟨w9.heap.size, 0, none⟩) hgy).trans y0
        have y1' := (hS.cell (p := ⟨w9.heap.size, 1, none⟩) hgy).trans y1
        have y2' := (hS.cell (p := ⟨w9.heap.size, 2, none⟩) hgy).trans y2
        have z0' := (hS.cell (p := ⟨gy, offy, none⟩) hgz).trans z0
        go_simp
        rfl
      go_frame
      refine wpTold_read ?_ rfl rfl (fun w' hS => ?_) ?_
      rotate_left
      · go_simp
        rfl
      go_frame
      refine wpTold_read ?_ rfl rfl (fun w' hS => ?_) ?_
      rotate_left
      · have p0' := (hS.cell (p := ⟨w.heap.size, 0, none⟩) hgp).trans p0
        have p1' := (hS.cell (p := ⟨w.heap.size, 1, none⟩) hgp).trans p1
        have p2' := (hS.cell (p := ⟨w.heap.size, 2, none⟩) hgp).trans p2
        have x0' := (hS.cell (p := ⟨w7.heap.size, 0, none⟩) hgx).trans x0
        have x1' := (hS.cell (p := ⟨w7.heap.size, 1, none⟩) hgx).trans x1
        have x2' := (hS.cell (p := ⟨w7.heap.size, 2, none⟩) hgx).trans x2
        have y0' := (hS.cell (p := ⟨w9.heap.size, 0, none⟩) hgy).trans y0
        have y1' := (hS.cell (p := ⟨w9.heap.size, 1, none⟩) hgy).trans y1
        have y2' := (hS.cell (p := ⟨w9.heap.size, 2, none⟩) hgy).trans y2
        have z0' := (hS.cell (p := ⟨gy, offy, none⟩) hgz).trans z0
        go_simp
        rfl
      go_frame
      refine wpTold_read ?_ rfl rfl (fun w' hS => ?_) ?_
      rotate_left
      · go_simp
        rfl
      go_frame
      refine wpTold_read ?_ rfl rfl (fun w' hS => ?_) ?_
      rotate_left
      · go_simp
        rfl
      go_frame
      refine wpTold_read ?_ rfl rfl (fun w' hS => ?_) ?_
      rotate_left
      · go_simp
        rfl
      go_frame
      refine wpTold_read ?_ rfl rfl (fun w' hS => ?_) ?_
      rotate_left
      · go_simp
        rfl
      go_frame
      refine wpTold_read ?_ rfl rfl (fun w' hS => ?_) ?_
      rotate_left
      · have p0' := (hS.cell (p := ⟨w.heap.size, 0, none⟩) hgp).trans p0
        have p1' := (hS.cell (p := ⟨w.heap.size, 1, none⟩) hgp).trans p1
        have p2' := (hS.cell (p := ⟨w.heap.size, 2, none⟩) hgp).trans p2
        have x0' := (hS.cell (p := ⟨w7.heap.size, 0, none⟩) hgx).trans x0
        have x1' := (hS.cell (p := ⟨w7.heap.size, 1, none⟩) hgx).trans x1
        have x2' := (hS.cell (p := ⟨w7.heap.size, 2, none⟩) hgx).trans x2
        have y0' := (hS.cell (p := ⟨w9.heap.size, 0, none⟩) hgy).trans y0
        have y1' := (hS.cell (p := ⟨w9.heap.size, 1, none⟩) hgy).trans y1
        have y2' := (hS.cell (p := ⟨w9.heap.size, 2, none⟩) hgy).trans y2
        have z0' := (hS.cell (p := ⟨gy, offy, none⟩) hgz).trans z0
        go_simp
        rfl
      go_frame
      refine wpTold_read ?_ rfl rfl (fun w' hS => ?_) ?_
      rotate_left
      · go_simp
        rfl
      go_frame
      refine wpTold_read ?_ rfl rfl (fun w' hS => ?_) ?_
      rotate_left
      · have p0' := (hS.cell (p := ⟨w.heap.size, 0, none⟩) hgp).trans p0
        have p1' := (hS.cell (p := ⟨w.heap.size, 1, none⟩) hgp).trans p1
        have p2' := (hS.cell (p := ⟨w.heap.size, 2, none⟩) hgp).trans p2
        have x0' := (hS.cell (p := ⟨w7.heap.size, 0, none⟩) hgx).trans x0
        have x1' := (hS.cell (p := ⟨w7.heap.size, 1, none⟩) hgx).trans x1
        have x2' := (hS.cell (p := ⟨w7.heap.size, 2, none⟩) hgx).trans x2
        have y0' := (hS.cell (p := ⟨w9.heap.size, 0, none⟩) hgy).trans y0
        have y1' := (hS.cell (p := ⟨w9.heap.size, 1, none⟩) hgy).trans y1
        have y2' := (hS.cell (p := ⟨w9.heap.size, 2, none⟩) hgy).trans y2
        have z0' := (hS.cell (p := ⟨gy, offy, none⟩) hgz).trans z0
        go_simp
        rfl
      go_frame
      refine wpTold_read ?_ rfl rfl (fun w' hS => ?_) ?_
      rotate_left
      · go_simp
        rfl
      go_frame
      refine wpTold_read ?_ rfl rfl (fun w' hS => ?_) ?_
      rotate_left
      · go_simp
        rfl
      go_frame
      refine wpTold_read ?_ rfl rfl (fun w' hS => ?_) ?_
      rotate_left
      · go_simp
        rfl
      go_frame
      refine wpTold_read ?_ rfl rfl (fun w' hS => ?_) ?_
      rotate_left
      · go_simp
        rfl
      go_frame
      refine wpTold_read ?_ rfl rfl (fun w' hS => ?_) ?_
      rotate_left
      · have p0' := (hS.cell (p := ⟨w.heap.size, 0, none⟩) hgp).trans p0
        have p1' := (hS.cell (p := ⟨w.heap.size, 1, none⟩) hgp).trans p1
        have p2' := (hS.cell (p := ⟨w.heap.size, 2, none⟩) hgp).trans p2
        have x0' := (hS.cell (p := ⟨w7.heap.size, 0, none⟩) hgx).trans x0
        have x1' := (hS.cell (p := ⟨w7.heap.size, 1, none⟩) hgx).trans x1
        have x2' := (hS.cell (p := ⟨w7.heap.size, 2, none⟩) hgx).trans x2
        have y0' := (hS.cell (p := ⟨w9.heap.size, 0, none⟩) hgy).trans y0
        have y1' := (hS.cell (p := ⟨w9.heap.size, 1, none⟩) hgy).trans y1
        have y2' := (hS.cell (p := ⟨w9.heap.size, 2, none⟩) hgy).trans y2
        have z0' := (hS.cell (p := ⟨gy, offy, none⟩) hgz).trans z0
        go_simp
        rfl
      go_frame
      refine wpTold_read ?_ rfl rfl (fun w' hS => ?_) ?_
      rotate_left
      · go_simp
        rfl
      go_frame
      refine wpTold_read ?_ rfl rfl (fun w' hS => ?_) ?_
      rotate_left
      · go_simp
        rfl
      go_frame
      refine wpTold_read ?_ rfl rfl (fun w' hS => ?_) ?_
      rotate_left
      · go_simp
        rfl
      go_frame
      refine wpTold_read ?_ rfl rfl (fun w' hS => ?_) ?_
      rotate_left
      · go_simp
        rfl
      go_frame
      refine wpTold_read ?_ rfl rfl (fun w' hS => ?_) ?_
      rotate_left
      · have p0' := (hS.cell (p := ⟨w.heap.size, 0, none⟩) hgp).trans p0
        have p1' := (hS.cell (p := ⟨w.heap.size, 1, none⟩) hgp).trans p1
        have p2' := (hS.cell (p := ⟨w.heap.size, 2, none⟩) hgp).trans p2
        have x0' := (hS.cell (p := ⟨w7.heap.size, 0, none⟩) hgx).trans x0
        have x1' := (hS.cell (p := ⟨w7.heap.size, 1, none⟩) hgx).trans x1
        have x2' := (hS.cell (p := ⟨w7.heap.size, 2, none⟩) hgx).trans x2
        have y0' := (hS.cell (p := ⟨w9.heap.size, 0, none⟩) hgy).trans y0
        have y1' := (hS.cell (p := ⟨w9.heap.size, 1, none⟩) hgy).trans y1
        have y2' := (hS.cell (p := ⟨w9.heap.size, 2, none⟩) hgy).trans y2
        have z0' := (hS.cell (p := ⟨gy, offy, none⟩) hgz).trans z0
        go_simp
        rfl
      go_frame
      refine wpTold_read ?_ rfl rfl (fun w' hS => ?_) ?_
      rotate_left
      · go_simp
        rfl
      go_frame
      refine wpTold_read ?_ rfl rfl (fun w' hS => ?_) ?_
      rotate_left
      · have p0' := (hS.cell (p := ⟨w.heap.size, 0, none⟩) hgp).trans p0
        have p1' := (hS.cell (p := ⟨w.heap.size, 1, none⟩) hgp).trans p1
        have p2' := (hS.cell (p := ⟨w.heap.size, 2, none⟩) hgp).trans p2
        have x0' := (hS.cell (p := ⟨w7.heap.size, 0, none⟩) hgx).trans x0
        have x1' := (hS.cell (p := ⟨w7.heap.size, 1, none⟩) hgx).trans x1
        have x2' := (hS.cell (p := ⟨w7.heap.size, 2, none⟩) hgx).trans x2
        have y0' := (hS.cell (p := ⟨w9.heap.size, 0, none⟩) hgy).trans y0
        have y1' := (hS.cell (p := ⟨w9.heap.size, 1, none⟩) hgy).trans y1
        have y2' := (hS.cell (p := ⟨w9.heap.size, 2, none⟩) hgy).trans y2
        have z0' := (hS.cell (p := ⟨gy, offy, none⟩) hgz).trans z0
        go_simp
        rfl
      go_frame
      refine wpTold_read ?_ rfl rfl (fun w' hS => ?_) ?_
      rotate_left
      · go_simp
        rfl
      go_frame
      refine wpTold_read ?_ rfl rfl (fun w' hS => ?_) ?_
      rotate_left
      · go_simp
        rfl
      go_frame
      refine wpTold_read ?_ rfl rfl (fun w' hS => ?_) ?_
      rotate_left
      · go_simp
        rfl
      go_frame
      refine wpTold_read ?_ rfl rfl (fun w' hS => ?_) ?_
      rotate_left
      · go_simp
        rfl
      go_frame
      refine wpTold_read ?_ rfl rfl (fun w' hS => ?_) ?_
      rotate_left
      · go_simp
        rfl
      go_frame
      refine wpTold_read ?_ rfl rfl (fun w' hS => ?_) ?_
      rotate_left
      · have p0' := (hS.cell (p := ⟨w.heap.size, 0, none⟩) hgp).trans p0
        have p1' := (hS.cell (p := ⟨w.heap.size, 1, none⟩) hgp).trans p1
        have p2' := (hS.cell (p := ⟨w.heap.size, 2, none⟩) hgp).trans p2
        have x0' := (hS.cell (p := ⟨w7.heap.size, 0, none⟩) hgx).trans x0
        have x1' := (hS.cell (p := ⟨w7.heap.size, 1, none⟩) hgx).trans x1
        have x2' := (hS.cell (p := ⟨w7.heap.size, 2, none⟩) hgx).trans x2
        have y0' := (hS.cell (p := ⟨w9.heap.size, 0, none⟩) hgy).trans y0
        have y1' := (hS.cell (p := ⟨w9.heap.size, 1, none⟩) hgy).trans y1
        have y2' := (hS.cell (p := ⟨w9.heap.size, 2, none⟩) hgy).trans y2
        have z0' := (hS.cell (p := ⟨gy, offy, none⟩) hgz).trans z0
        go_simp
        rfl
      go_frame
      refine wpTold_read ?_ rfl rfl (fun w' hS => ?_) ?_
      rotate_left
      · go_simp
        rfl
      go_frame
      refine wpTold_read ?_ rfl rfl (fun w' hS => ?_) ?_
      rotate_left
      · go_simp
        rfl
      go_frame
      refine wpTold_read ?_ rfl rfl (fun w' hS => ?_) ?_
      rotate_left
      · have p0' := (hS.cell (p := ⟨w.heap.size, 0, none⟩) hgp).trans p0
        have p1' := (hS.cell (p := ⟨w.heap.size, 1, none⟩) hgp).trans p1
        have p2' := (hS.cell (p := ⟨w.heap.size, 2, none⟩) hgp).trans p2
        have x0' := (hS.cell (p := ⟨w7.heap.size, 0, none⟩) hgx).trans x0
        have x1' := (hS.cell (p := ⟨w7.heap.size, 1, none⟩) hgx).trans x1
        have x2' := (hS.cell (p := ⟨w7.heap.size, 2, none⟩) hgx).trans x2
        have y0' := (hS.cell (p := ⟨w9.heap.size, 0, none⟩) hgy).trans y0
        have y1' := (hS.cell (p := ⟨w9.heap.size, 1, none⟩) hgy).trans y1
        have y2' := (hS.cell (p := ⟨w9.heap.size, 2, none⟩) hgy).trans y2
        have z0' := (hS.cell (p := ⟨gy, offy, none⟩) hgz).trans z0
        go_simp
        rfl
      go_frame
      refine' wpTold_call _ _ _ rfl rfl (fun w' => ?_) (fun w' hS hh hs => ?_) (fun v49 h49 => ?_)
      rotate_left 2
      · go_simp
        constructor <;> rfl
      · refine (sameBytes_any _ _ _ _ _ _ f.1 f.1 _ _ _ (by exact HRc10.out.below hS (Nat.le_refl _)) (by exact HRz.out.below hS (Nat.le_refl _))).mono ?_
        rintro e w2' ⟨rfl, rfl⟩
        rw [BEq.rfl]
        exact ⟨_, rfl, ⟨rfl, trivial⟩, gk_of _ (by decide) (Below.refl _ _)⟩
      obtain rfl := h49
      go_frame
      refine wpTold_read ?_ rfl rfl (fun w' hS => ?_) ?_
      rotate_left
      · go_simp
        rfl
      go_frame
      refine wpTold_read ?_ rfl rfl (fun w' hS => ?_) ?_
      rotate_left
      · go_simp
        rfl
      go_frame
      refine wpTold_read ?_ rfl rfl (fun w' hS => ?_) ?_
      rotate_left
      · go_simp
        rfl
      go_frame
      refine wpTold_read ?_ rfl rfl (fun w' hS => ?_) ?_
      rotate_left
      · have p0' := (hS.cell (p := ⟨w.heap.size, 0, none⟩) hgp).trans p0
        have p1' := (hS.cell (p := ⟨w.heap.size, 1, none⟩) hgp).trans p1
        have p2' := (hS.cell (p := ⟨w.heap.size, 2, none⟩) hgp).trans p2
        have x0' := (hS.cell (p := ⟨w7.heap.size, 0, none⟩) hgx).trans x0
        have x1' := (hS.cell (p := ⟨w7.heap.size, 1, none⟩) hgx).trans x1
        have x2' := (hS.cell (p := ⟨w7.heap.size, 2, none⟩) hgx).trans x2
        have y0' := (hS.cell (p := ⟨w9.heap.size, 0, none⟩) hgy).trans y0
        have y1' := (hS.cell (p := ⟨w9.heap.size, 1, none⟩) hgy).trans y1
        have y2' := (hS.cell (p := ⟨w9.heap.size, 2, none⟩) hgy).trans y2
        have z0' := (hS.cell (p := ⟨gy, offy, none⟩) hgz).trans z0
        go_simp
        rfl
      go_frame
      refine' wpTold_call _ _ _ rfl rfl (fun w' => ?_) (fun w' hS hh hs => ?_) (fun v54 h54 => ?_)
      rotate_left 2
      · go_simp
        constructor <;> rfl
      · refine (copyCells_any Ax j cx (cs.take j) _ (by exact (HOx10.out.below hS (Nat.le_refl _)).more hS.size) (by omega)).mono ?_
        rintro e w2' ⟨v, rfl, h1, h2⟩
        refine ⟨_, rfl, ⟨?_, Nat.le_trans hh h2.size, (h1.base hh (Nat.zero_le _)).up (Nat.zero_le _) (Nat.le_refl _)⟩, gk_of _ (by decide) h2⟩
        obtain ⟨A', c', e', _⟩ := h1.form
        exact ⟨A', c', by rw [← HJ.out]; exact e'⟩
      obtain ⟨A54, c54, rfl⟩ := h54
      go_frame
      refine wpTold_read ?_ rfl rfl (fun w' hS => ?_) ?_
      rotate_left
      · go_simp
        rfl
      go_frame
      refine wpTold_read ?_ rfl rfl (fun w' hS => ?_) ?_
      rotate_left
      · have p0' := (hS.cell (p := ⟨w.heap.size, 0, none⟩) hgp).trans p0
        have p1' := (hS.cell (p := ⟨w.heap.size, 1, none⟩) hgp).trans p1
        have p2' := (hS.cell (p := ⟨w.heap.size, 2, none⟩) hgp).trans p2
        have x0' := (hS.cell (p := ⟨w7.heap.size, 0, none⟩) hgx).trans x0
        have x1' := (hS.cell (p := ⟨w7.heap.size, 1, none⟩) hgx).trans x1
        have x2' := (hS.cell (p := ⟨w7.heap.size, 2, none⟩) hgx).trans x2
        have y0' := (hS.cell (p := ⟨w9.heap.size, 0, none⟩) hgy).trans y0
        have y1' := (hS.cell (p := ⟨w9.heap.size, 1, none⟩) hgy).trans y1
        have y2' := (hS.cell (p := ⟨w9.heap.size, 2, none⟩) hgy).trans y2
        have z0' := (hS.cell (p := ⟨gy, offy, none⟩) hgz).trans z0
        go_simp
        rfl
      go_frame
      refine wpTold_tell _ rfl rfl (fun w' hS hh hs => ?_) (fun v57 h57 => ?_)
      · have h54 := hs.1 54 _ _ (by kernel_rfl) rfl rfl
        obtain ⟨v', w'', hrun, ho, hb, hkp⟩ := run_appCs (ty := 23) w10.heap.size w10.heap.size _ (cs.take j) (cs.drop j) h54.2 (some ⟨gy, offy, none⟩) k cy (HOy10.out.below hS (Nat.le_refl _)) (Nat.le_refl _) (by rw [HJ.out]; omega) h54.1
        rw [List.take_append_drop] at ho
        refine ⟨v', w'', exec_append (.tmp 138) (.tmp 140) rfl rfl rfl hrun, ⟨?_, Nat.le_trans hh hb.size, ho⟩, ?_⟩
        · obtain ⟨A', c', e', _⟩ := ho.form
          exact ⟨A', c', by rw [HM.out]; exact e'⟩
        · refine gk_at ⟨hb, fun u hu => ⟨Nat.le_trans hu.1 hb.size, hkp u _ rfl hu.2⟩⟩
      obtain ⟨A57, c57, rfl⟩ := h57
      go_frame
      refine wpTold_read ?_ rfl rfl (fun w' hS => ?_) ?_
      rotate_left
      · go_simp
        rfl
      go_frame
      refine wpTold_read ?_ rfl rfl (fun w' hS => ?_) ?_
      rotate_left
      · have p0' := (hS.cell (p := ⟨w.heap.size, 0, none⟩) hgp).trans p0
        have p1' := (hS.cell (p := ⟨w.heap.size, 1, none⟩) hgp).trans p1
        have p2' := (hS.cell (p := ⟨w.heap.size, 2, none⟩) hgp).trans p2
        have x0' := (hS.cell (p := ⟨w7.heap.size, 0, none⟩) hgx).trans x0
        have x1' := (hS.cell (p := ⟨w7.heap.size, 1, none⟩) hgx).trans x1
        have x2' := (hS.cell (p := ⟨w7.heap.size, 2, none⟩) hgx).trans x2
        have y0' := (hS.cell (p := ⟨w9.heap.size, 0, none⟩) hgy).trans y0
        have y1' := (hS.cell (p := ⟨w9.heap.size, 1, none⟩) hgy).trans y1
        have y2' := (hS.cell (p := ⟨w9.heap.size, 2, none⟩) hgy).trans y2
        have z0' := (hS.cell (p := ⟨gy, offy, none⟩) hgz).trans z0
        go_simp
        rfl
      go_frame
      refine' wpTold_call _ _ _ rfl rfl (fun w' => ?_) (fun w' hS hh hs => ?_) (fun v60 h60 => ?_)
      rotate_left 2
      · go_simp
        constructor <;> rfl
      · have h57 := hs.1 57 _ _ (by kernel_rfl) rfl rfl
        refine (sameCells_any A57 A m c57 n c cs cs _ (by exact h57.2.rd HM.out h57.1) (by exact (HL10.out.below hS (Nat.le_refl _)).more hS.size) (by unfold maxLen; omega) (by unfold maxLen; omega)).mono ?_
        rintro e w2' ⟨rfl, h2⟩
        rw [BEq.rfl]
        exact ⟨_, rfl, ⟨rfl, trivial⟩, gk_of _ (by decide) h2⟩
      obtain rfl := h60
      go_frame
      refine wpTold_read ?_ rfl rfl (fun w' hS => ?_) ?_
      rotate_left
      · go_simp
        rfl
      go_frame
      refine wpTold_read ?_ rfl rfl (fun w' hS => ?_) ?_
      rotate_left
      · go_simp
        rfl
      go_frame
      refine' wpTold_call _ _ _ rfl rfl (fun w' => ?_) (fun w' hS hh hs => ?_) (fun v63 h63 => ?_)
      rotate_left 2
      · go_simp
        constructor <;> rfl
      · refine (awake_any _).mono ?_
        rintro e w2' ⟨rfl, h2⟩
        exact ⟨_, rfl, ⟨rfl, trivial⟩, gk_of _ (by decide) h2⟩
      obtain rfl := h63
      go_frame
      refine wpTold_read ?_ rfl rfl (fun w' hS => ?_) ?_
      rotate_left
      · go_simp
        rfl
      go_frame
      refine wpTold_read ?_ rfl rfl (fun w' hS => ?_) ?_
      rotate_left
      · go_simp
        rfl
      go_frame
      refine wpTold_nil fun w11 hH => ?_
      have HB11 := hide (HB10.out.trans (hH.s.mono (by omega)))
      clear hH p0 p1 p2 x0 x1 x2 y0 y1 y2 z0
      go_wp2_with fail
      go_ret
      exact ⟨rfl, HB11.out⟩
end Go.Proofs.Ytpoilndlfbmhgaa
