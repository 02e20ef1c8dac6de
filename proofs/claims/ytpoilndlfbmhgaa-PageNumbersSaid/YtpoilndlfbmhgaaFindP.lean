/-
  The walks of page.find (with sort.Search) and of Below, the program's and the reference's. Conditions: the cells read as a list; for find their keys rise.
-/
import Derived.Test.YtpoilndlfbmhgaaKitP
import Derived.Test.YtpoilndlfbmhgaaFindMath
namespace Go.Proofs.Ytpoilndlfbmhgaa
open Go.RowKit

set_option linter.unusedVariables false in
set_option maxRecDepth 100000 in
set_option maxHeartbeats 1600000 in
theorem find1_any (A A' : Option Addr) (n c n' c' i g1 g2 : Nat) (cs : List Pag.Ce) (f : Pag.Ce) (key : List UInt8) (w : World) (hl : CeRd w w.heap.size A n cs) (hk : Rb w w.heap.size A' n' key) (hb1 : Blk w g1 23 #[.slice A n c]) (hb2 : Blk w g2 26 #[.slice A' n' c']) (hi : i < n) (hf : cs[i]? = some f) (hn : n ≤ maxLen) :
    Calls Try.prog 58 #[.int .i64 (i : Nat), .pointer (some ⟨g1, 0, none⟩), .pointer (some ⟨g2, 0, none⟩)] w fun e w' => e = .returned (.bool (Pag.geB key f)) ∧ Below w.heap.size w w' := by
  unfold maxLen at hn
  obtain ⟨g, off, f', Ak, ck, Av, cv, rfl, hg, hf', d0, d1, hrk, hk1, hk2, hk3, hrv, hv1, hv2, hv3⟩ := hl.at hi
  rw [hf] at hf'
  obtain rfl := Option.some.inj hf'
  have HRk := hide hrk
  have HKy := hide hk
  have hg1 := hb1.lt
  have hg2 := hb2.lt
  have k1 := hb1.cell 0
  have k2 := hb2.cell 0
  simp at k1 k2
  have HR : Hid (decide ((0 : Int) ≤ cmpB f.1 key) = Pag.geB key f) := rfl
  clear hl hk hb1 hb2 hf hf' hrk hrv d1
  go_enter Try.func58, Try.ntmps58
  go_wp2_with fail
  have hTs := tab_stable (l := [(6, NoF)]) (fun p hp => by
      simp only [List.mem_cons, List.not_mem_nil, or_false] at hp
      subst hp
      exact NoF.stable)
  have hSs := shp_some (l := [(6, IsV (.int .i64 (cmpB f.1 key)))]) (fun p hp => by
      simp only [List.mem_cons, List.not_mem_nil, or_false] at hp
      subst hp
      exact IsV.some _)
  have HTs := hide hTs
  have HSs := hide hSs
  clear hTs hSs
  refine wp_region_toldL (tab [(6, NoF)]) (Up w) (w.heap.size) 9 (shp [(6, IsV (.int .i64 (cmpB f.1 key)))]) (HSs.out) (HTs.out) (Up.lives _) Gro (Gro.turns (Up.lives _) (HTs.out)) (by kernel_rfl) (by kernel_rfl) (Up.start _) (Nat.le_refl _) ?_
  simp only [List.take_succ_cons, List.take_zero, List.drop_succ_cons, List.drop_zero]
  refine wpTold_read ?_ rfl rfl (fun w' hS => ?_) ?_
  rotate_left
  · have k1' := (hS.cell (p := ⟨g1, 0, none⟩) hg1).trans k1
    have k2' := (hS.cell (p := ⟨g2, 0, none⟩) hg2).trans k2
    have d0' := (hS.cell (p := ⟨g, off + i * 2, none⟩) hg).trans d0
    go_simp
    rfl
  go_frame
  refine wpTold_read ?_ rfl rfl (fun w' hS => ?_) ?_
  rotate_left
  · go_simp
    rfl
  go_frame
  refine wpTold_read ?_ rfl rfl (fun w' hS => ?_) ?_
  rotate_left
  · go_simp
    rfl
  go_frame
  refine wpTold_read ?_ rfl rfl (fun w' hS => ?_) ?_
  rotate_left
  · go_simp
    rfl
  go_frame
  refine wpTold_read ?_ rfl rfl (fun w' hS => ?_) ?_
  rotate_left
  · have k1' := (hS.cell (p := ⟨g1, 0, none⟩) hg1).trans k1
    have k2' := (hS.cell (p := ⟨g2, 0, none⟩) hg2).trans k2
    have d0' := (hS.cell (p := ⟨g, off + i * 2, none⟩) hg).trans d0
    go_simp
    rfl
  go_frame
  refine wpTold_read ?_ rfl rfl (fun w' hS => ?_) ?_
  rotate_left
  · have k1' := (hS.cell (p := ⟨g1, 0, none⟩) hg1).trans k1
    have k2' := (hS.cell (p := ⟨g2, 0, none⟩) hg2).trans k2
    have d0' := (hS.cell (p := ⟨g, off + i * 2, none⟩) hg).trans d0
    go_simp
    rfl
  go_frame
  refine' wpTold_call _ _ _ rfl rfl (fun w' => ?_) (fun w' hS hh hs => ?_) (fun v6 h6 => ?_)
  rotate_left 2
  · go_simp
    constructor <;> rfl
  · refine (cmp_any _ _ _ _ _ _ f.1 key _ _ _ (by exact HRk.out.below hS (Nat.le_refl _)) (by exact HKy.out.below hS (Nat.le_refl _))).mono ?_
    rintro e w2 ⟨rfl, rfl⟩
    exact ⟨_, rfl, ⟨rfl, trivial⟩, Below.refl _ _⟩
  obtain rfl := h6
  go_frame
  refine wpTold_read ?_ rfl rfl (fun w' hS => ?_) ?_
  rotate_left
  · go_simp
    rfl
  go_frame
  refine wpTold_read ?_ rfl rfl (fun w' hS => ?_) ?_
  rotate_left
  · go_simp
    rfl
  go_frame
  refine wpTold_nil fun w2 hH => ?_
  go_wp2_with fail
  go_ret
  exact ⟨by rw [← HR.out]; rfl, hH.s⟩
/-- sort.Search, with find's closure. -/
theorem search_any (n g1 g2 : Nat) (f : Nat → Bool) (w : World) (hn : n ≤ 4000000000000) (hmono : ∀ i j, i ≤ j → j < n → f i = true → f j = true)
    (hf : ∀ (i : Nat) (w' : World), i < n → Below w.heap.size w w' → Calls Try.prog 58 #[.int .i64 (i : Nat), .pointer (some ⟨g1, 0, none⟩), .pointer (some ⟨g2, 0, none⟩)] w' fun e w'' => e = .returned (.bool (f i)) ∧ Below w'.heap.size w' w'') :
    Calls Try.prog 57 #[.int .i64 (n : Nat), .func (Fn.func 58) #[] #[.pointer (some ⟨g1, 0, none⟩), .pointer (some ⟨g2, 0, none⟩)]] w fun e w' => ∃ r : Nat, e = .returned (.int .i64 (r : Nat)) ∧ r ≤ n ∧ (∀ i, i < r → f i = false) ∧ (∀ i, r ≤ i → i < n → f i = true) ∧ Below w.heap.size w w' := by
  have HM := hide hmono
  have HF := hide hf
  clear hmono hf
  go_enter Try.func57, Try.ntmps57
  go_wp2_with fail
  go_loopw [5, 6] (fun a b wr => ∃ i j : Nat, i ≤ j ∧ j ≤ n ∧ a = .int .i64 (i : Nat) ∧ b = .int .i64 (j : Nat) ∧ Hid (∀ k, k < i → f k = false) ∧ Hid (∀ k, j ≤ k → k < n → f k = true) ∧ Below w.heap.size w wr) (fun a b _ => (intOf b).toNat - (intOf a).toNat)
  case atStart => exact ⟨0, n, Nat.zero_le _, Nat.le_refl _, rfl, rfl, fun k hk => absurd hk (by omega), fun k h1 h2 => absurd h1 (by omega), Below.refl _ _⟩
  case round =>
    obtain ⟨i, j, hij, hj, rfl, rfl, H1, H2, hbel⟩ := hrel
    obtain ⟨w10, hw10⟩ : ∃ w10, w10 = wr := ⟨_, rfl⟩
    subst hw10
    have HB := hide hbel
    clear hbel
    by_cases hlt : i < j
    · obtain ⟨h, hh⟩ : ∃ h : Nat, h = (i + j) / 2 := ⟨_, rfl⟩
      have hh1 : i ≤ h := by omega
      have hh2 : h < j := by omega
      have e1 : IntKind.u64.wrap ((i : Int) + (j : Int)) = (i : Int) + j := by rw [IntKind.wrap_u64]; omega
      have e2 : ((i : Int) + (j : Int)) / 2 = (h : Int) := by omega
      have e3 : IntKind.i64.wrap (h : Int) = (h : Int) := IntWalk.i64_in _ (by omega)
      clear hh
      go_wp2_with fail
      with_reducible refine (HF.out h _ (by omega) HB.out).mono ?_
      rintro e w11 ⟨rfl, hb11⟩
      have HB11 := hide (HB.out.trans (hb11.mono HB.out.size))
      clear hb11
      cases hfh : f h with
      | false =>
        have H1' : Hid (∀ k, k < h + 1 → f k = false) := fun k hk => by
          cases hfk : f k with
          | false => rfl
          | true =>
            have := HM.out k h (by omega) (by omega) hfk
            rw [hfh] at this
            cases this
        clear hfh
        go_wp2_with fail
        go_roundw
        case rel => exact ⟨h + 1, j, by omega, hj, by go_num, rfl, H1', H2, HB11.out⟩
        case measure => simp [intOf]; omega
      | true =>
        have H2' : Hid (∀ k, h ≤ k → k < n → f k = true) := fun k h1 h2 => HM.out h k h1 h2 hfh
        clear hfh
        go_wp2_with fail
        go_roundw
        case rel => exact ⟨i, h, hh1, by omega, rfl, rfl, H1, H2', HB11.out⟩
        case measure => simp [intOf]; omega
    · have hij' : i = j := by omega
      subst hij'
      go_wp2_with fail
      go_ret
      exact ⟨i, rfl, hj, H1.out, H2.out, HB.out⟩
set_option linter.unusedVariables false in
set_option maxRecDepth 100000 in
set_option maxHeartbeats 1600000 in
theorem find_any (A A' : Option Addr) (n c n' c' : Nat) (cs : List Pag.Ce) (key : List UInt8) (w : World) (hl : CeRd w w.heap.size A n cs) (hk : Rb w w.heap.size A' n' key) (hn : n ≤ 4000000000000) (hr : Pag.riseB cs = true) :
    Calls Try.prog 45 #[.slice A n c, .slice A' n' c'] w fun e w' => e = .returned (.tuple #[.int .i64 (Pag.findN cs key : Nat), .bool (Pag.hasB cs key)]) ∧ Below w.heap.size w w' := by
  have HL := hide hl
  have HK := hide hk
  have HN := hide hl.1
  have HRi := hide hr
  clear hl hk hr
  obtain ⟨w1, hw1⟩ : ∃ w1, w1 = w.alloc (.cells #[.slice A n c] 23) := ⟨_, rfl⟩
  have HK1 : Hid (Blk w1 w.heap.size 23 #[.slice A n c]) := by rw [hw1]; exact Blk.new _ _ _
  have HB1 : Hid (Below w.heap.size w w1) := by rw [hw1]; exact (Below.refl _ _).alloc (Nat.le_refl _) _
  have hs1 : w1.heap.size = w.heap.size + 1 := by rw [hw1]; simp
  obtain ⟨w2, hw2⟩ : ∃ w2, w2 = w1.alloc (.cells #[.slice A' n' c'] 26) := ⟨_, rfl⟩
  have HZ2 : Hid (Blk w2 (w.heap.size + 1) 26 #[.slice A' n' c']) := by rw [hw2, ← hs1]; exact Blk.new _ _ _
  have hb2 : Below w1.heap.size w1 w2 := by rw [hw2]; exact (Below.refl _ _).alloc (Nat.le_refl _) _
  have HB2 := hide (HB1.out.trans (hb2.mono (by omega)))
  have HK2 := hide (HK1.out.below hb2 (by omega))
  have hs2 : w2.heap.size = w.heap.size + 2 := by rw [hw2]; simp [hs1]
  have HL2 := hide ((HL.out.below HB2.out (Nat.le_refl _)).more (C := w2.heap.size) (by omega))
  have HKy2 := hide ((HK.out.below HB2.out (Nat.le_refl _)).more (B' := w2.heap.size) (by omega))
  have hb0 : w.heap.size < w2.heap.size := by omega
  have hb01 : w.heap.size + 1 < w2.heap.size := by omega
  clear hb2 hs1 hs2
  have hf : ∀ (i : Nat) (w' : World), i < n → Below w2.heap.size w2 w' → Calls Try.prog 58 #[.int .i64 (i : Nat), .pointer (some ⟨w.heap.size, 0, none⟩), .pointer (some ⟨w.heap.size + 1, 0, none⟩)] w' fun e w'' => e = .returned (.bool ((fun i => match cs[i]? with | some f => Pag.geB key f | none => true) i)) ∧ Below w'.heap.size w' w'' := by
    intro i w' hi hb
    have hil : i < cs.length := by rw [← HN.out]; exact hi
    have hf := List.getElem?_eq_getElem hil
    refine (find1_any A A' n c n' c' i w.heap.size (w.heap.size + 1) cs cs[i] key w' ((HL2.out.below hb (Nat.le_refl _)).more hb.size) ((HKy2.out.below hb (Nat.le_refl _)).more hb.size) (HK2.out.below hb hb0) (HZ2.out.below hb hb01) hi hf (by unfold maxLen; omega)).mono ?_
    rintro e w'' ⟨rfl, h⟩
    refine ⟨?_, h⟩
    simp only [hf]
  have hmono : ∀ i j, i ≤ j → j < n → (fun i => match cs[i]? with | some f => Pag.geB key f | none => true) i = true → (fun i => match cs[i]? with | some f => Pag.geB key f | none => true) j = true := by
    intro i j hij hj h
    have hjl : j < cs.length := by rw [← HN.out]; exact hj
    simp only [List.getElem?_eq_getElem hjl, List.getElem?_eq_getElem (show i < cs.length by omega)] at h ⊢
    exact Pag.ge_mono HRi.out key hij (List.getElem?_eq_getElem (by omega)) (List.getElem?_eq_getElem hjl) h
  have HS := hide (search_any n w.heap.size (w.heap.size + 1) _ w2 hn hmono hf)
  clear hf hmono
  go_enter Try.func45, Try.ntmps45
  go_upto_region 1 with fail
  rw [← hw1, ← hw2]
  clear hw1 hw2
  have k1 := HK2.out.cell 0
  have k2 := HZ2.out.cell 0
  simp at k1 k2
  go_wp2_with fail
  with_reducible refine HS.out.mono ?_
  rintro e w3 ⟨r, rfl, hrn, hr1, hr2, hb3⟩
  have hfN : Pag.findN cs key = r := by
    refine Pag.findIdx_of cs r (by rw [← HN.out]; exact hrn) (fun j c hj hc => ?_) (fun c hc => ?_)
    · have := hr1 j hj
      simp only [hc] at this
      exact this
    · have hrl : r < cs.length := (List.getElem?_eq_some_iff.1 hc).1
      have := hr2 r (Nat.le_refl _) (by rw [HN.out]; exact hrl)
      simp only [hc] at this
      exact this
  have HFn := hide hfN
  have HB3 := hide (HB2.out.trans (hb3.mono (Nat.le_of_lt hb0)))
  have HK3 := hide (HK2.out.below hb3 hb0)
  have HZ3 := hide (HZ2.out.below hb3 hb01)
  have hs3 := hb3.size
  have hg1 : w.heap.size < w3.heap.size := by omega
  have hg2 : w.heap.size + 1 < w3.heap.size := by omega
  have HL3 := hide ((HL2.out.below hb3 (Nat.le_refl _)).more hs3)
  have HKy := hide ((HKy2.out.below hb3 (Nat.le_refl _)).more hs3)
  clear hr1 hr2 hfN k1 k2 hb3 HS
  have k1 := HK3.out.cell 0
  have k2 := HZ3.out.cell 0
  simp at k1 k2
  by_cases hlt : r < n
  · obtain ⟨g, off, f, Ak, ck, Av, cv, rfl, hg, hf, d0, d1, hrk, hk1, hk2, hk3, hrv, hv1, hv2, hv3⟩ := HL3.out.at hlt
    have HRk := hide hrk
    obtain ⟨b, hb⟩ : ∃ b, (f.1 == key) = b := ⟨_, rfl⟩
    have HBb := hide hb
    have HR : Hid (Pag.hasB cs key = b) := by
      show _ = _
      unfold Pag.hasB
      rw [HFn.out, hf]
      exact hb
    clear hrk hrv hf hb d1
    go_upto_region 2 with fail
    have hTs := tab_stable (l := [(12, NoF)]) (fun p hp => by
        simp only [List.mem_cons, List.not_mem_nil, or_false] at hp
        subst hp
        exact NoF.stable)
    have hSs := shp_some (l := [(12, IsV (.bool b))]) (fun p hp => by
        simp only [List.mem_cons, List.not_mem_nil, or_false] at hp
        subst hp
        exact IsV.some _)
    have HTs := hide hTs
    have HSs := hide hSs
    clear hTs hSs
    refine wp_region_toldL (tab [(12, NoF)]) (Up w3) (w3.heap.size) 16 (shp [(12, IsV (.bool b))]) (HSs.out) (HTs.out) (Up.lives _) Gro (Gro.turns (Up.lives _) (HTs.out)) (by kernel_rfl) (by kernel_rfl) (Up.start _) (Nat.le_refl _) ?_
    simp only [List.take_succ_cons, List.take_zero, List.drop_succ_cons, List.drop_zero]
    refine wpTold_read ?_ rfl rfl (fun w' hS => ?_) ?_
    rotate_left
    · go_simp
      rfl
    go_frame
    refine wpTold_read ?_ rfl rfl (fun w' hS => ?_) ?_
    rotate_left
    · go_simp
      rfl
    go_frame
    refine wpTold_read ?_ rfl rfl (fun w' hS => ?_) ?_
    rotate_left
    · have k1' := (hS.cell (p := ⟨w.heap.size, 0, none⟩) hg1).trans k1
      have k2' := (hS.cell (p := ⟨w.heap.size + 1, 0, none⟩) hg2).trans k2
      have d0' := (hS.cell (p := ⟨g, off + r * 2, none⟩) hg).trans d0
      go_simp
      rfl
    go_frame
    refine wpTold_read ?_ rfl rfl (fun w' hS => ?_) ?_
    rotate_left
    · go_simp
      rfl
    go_frame
    refine wpTold_read ?_ rfl rfl (fun w' hS => ?_) ?_
    rotate_left
    · go_simp
      rfl
    go_frame
    refine wpTold_read ?_ rfl rfl (fun w' hS => ?_) ?_
    rotate_left
    · go_simp
      rfl
    go_frame
    refine wpTold_read ?_ rfl rfl (fun w' hS => ?_) ?_
    rotate_left
    · have k1' := (hS.cell (p := ⟨w.heap.size, 0, none⟩) hg1).trans k1
      have k2' := (hS.cell (p := ⟨w.heap.size + 1, 0, none⟩) hg2).trans k2
      have d0' := (hS.cell (p := ⟨g, off + r * 2, none⟩) hg).trans d0
      go_simp
      rfl
    go_frame
    refine wpTold_read ?_ rfl rfl (fun w' hS => ?_) ?_
    rotate_left
    · go_simp
      rfl
    go_frame
    refine wpTold_read ?_ rfl rfl (fun w' hS => ?_) ?_
    rotate_left
    · go_simp
      rfl
    go_frame
    refine wpTold_read ?_ rfl rfl (fun w' hS => ?_) ?_
    rotate_left
    · go_simp
      rfl
    go_frame
    refine wpTold_read ?_ rfl rfl (fun w' hS => ?_) ?_
    rotate_left
    · have k1' := (hS.cell (p := ⟨w.heap.size, 0, none⟩) hg1).trans k1
      have k2' := (hS.cell (p := ⟨w.heap.size + 1, 0, none⟩) hg2).trans k2
      have d0' := (hS.cell (p := ⟨g, off + r * 2, none⟩) hg).trans d0
      go_simp
      rfl
    go_frame
    refine wpTold_read ?_ rfl rfl (fun w' hS => ?_) ?_
    rotate_left
    · have k1' := (hS.cell (p := ⟨w.heap.size, 0, none⟩) hg1).trans k1
      have k2' := (hS.cell (p := ⟨w.heap.size + 1, 0, none⟩) hg2).trans k2
      have d0' := (hS.cell (p := ⟨g, off + r * 2, none⟩) hg).trans d0
      go_simp
      rfl
    go_frame
    refine' wpTold_call _ _ _ rfl rfl (fun w' => ?_) (fun w' hS hh hs => ?_) (fun v12 h12 => ?_)
    rotate_left 2
    · go_simp
      constructor <;> rfl
    · refine (same_any _ _ _ _ _ _ f.1 key _ _ _ (by exact HRk.out.below hS (Nat.le_refl _)) (by exact HKy.out.below hS (Nat.le_refl _))).mono ?_
      rintro e w2 ⟨rfl, rfl⟩
      rw [HBb.out]
      exact ⟨_, rfl, ⟨rfl, trivial⟩, Below.refl _ _⟩
    obtain rfl := h12
    go_frame
    refine wpTold_read ?_ rfl rfl (fun w' hS => ?_) ?_
    rotate_left
    · go_simp
      rfl
    go_frame
    refine wpTold_read ?_ rfl rfl (fun w' hS => ?_) ?_
    rotate_left
    · go_simp
      rfl
    go_frame
    refine wpTold_read ?_ rfl rfl (fun w' hS => ?_) ?_
    rotate_left
    · go_simp
      rfl
    go_frame
    refine wpTold_nil fun w4 hH => ?_
    have HB4 := hide (HB3.out.trans (hH.s.mono (Nat.le_of_lt hg1)))
    clear hH d0 k1 k2
    go_wp2_with fail
    go_ret2
    exact ⟨by rw [HFn.out, HR.out]; rfl, HB4.out⟩
  · have HR : Hid (Pag.hasB cs key = false) := by
      show _ = _
      unfold Pag.hasB
      rw [HFn.out, List.getElem?_eq_none (by rw [← HN.out]; omega)]
    have hrn' : r = n := by omega
    subst hrn'
    go_upto_region 2 with fail
    have hTs := tab_stable (l := []) (fun p hp => by cases hp)
    have hSs := shp_some (l := []) (fun p hp => by cases hp)
    have HTs := hide hTs
    have HSs := hide hSs
    clear hTs hSs
    refine wp_region_toldL (tab []) (Up w3) (w3.heap.size) 16 (shp []) (HSs.out) (HTs.out) (Up.lives _) Gro (Gro.turns (Up.lives _) (HTs.out)) (by kernel_rfl) (by kernel_rfl) (Up.start _) (Nat.le_refl _) ?_
    simp only [List.take_succ_cons, List.take_zero, List.drop_succ_cons, List.drop_zero]
    refine wpTold_read ?_ rfl rfl (fun w' hS => ?_) ?_
    rotate_left
    · go_simp
      rfl
    go_frame
    refine wpTold_read ?_ rfl rfl (fun w' hS => ?_) ?_
    rotate_left
    · go_simp
      rfl
    go_frame
    refine wpTold_read ?_ rfl rfl (fun w' hS => ?_) ?_
    rotate_left
    · have k1' := (hS.cell (p := ⟨w.heap.size, 0, none⟩) hg1).trans k1
      have k2' := (hS.cell (p := ⟨w.heap.size + 1, 0, none⟩) hg2).trans k2
      go_simp
      rfl
    go_frame
    refine wpTold_read ?_ rfl rfl (fun w' hS => ?_) ?_
    rotate_left
    · go_simp
      rfl
    go_frame
    refine wpTold_read ?_ rfl rfl (fun w' hS => ?_) ?_
    rotate_left
    · go_simp
      rfl
    go_frame
    refine wpTold_read ?_ rfl rfl (fun w' hS => ?_) ?_
    rotate_left
    · go_simp
      rfl
    go_frame
    refine wpTold_skip rfl rfl ?_
    go_frame
    refine wpTold_skip rfl rfl ?_
    go_frame
    refine wpTold_skip rfl rfl ?_
    go_frame
    refine wpTold_skip rfl rfl ?_
    go_frame
    refine wpTold_skip rfl rfl ?_
    go_frame
    refine wpTold_skip rfl rfl ?_
    go_frame
    refine wpTold_skip rfl rfl ?_
    go_frame
    refine wpTold_read ?_ rfl rfl (fun w' hS => ?_) ?_
    rotate_left
    · go_simp
      rfl
    go_frame
    refine wpTold_read ?_ rfl rfl (fun w' hS => ?_) ?_
    rotate_left
    · go_simp
      rfl
    go_frame
    refine wpTold_read ?_ rfl rfl (fun w' hS => ?_) ?_
    rotate_left
    · go_simp
      rfl
    go_frame
    refine wpTold_nil fun w4 hH => ?_
    have HB4 := hide (HB3.out.trans (hH.s.mono (Nat.le_of_lt hg1)))
    clear hH k1 k2
    go_wp2_with fail
    go_ret2
    exact ⟨by rw [HFn.out, HR.out]; rfl, HB4.out⟩
end Go.Proofs.Ytpoilndlfbmhgaa
