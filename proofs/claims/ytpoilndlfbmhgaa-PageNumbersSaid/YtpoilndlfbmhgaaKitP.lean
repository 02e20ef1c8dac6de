/-
  The walks of chancerylow's copies and comparisons of pages and cells. Conditions: the cells read as a list.
-/
import Derived.Test.YtpoilndlfbmhgaaRefUnp
namespace Go.Proofs.Ytpoilndlfbmhgaa
open Go.RowKit

set_option linter.unusedVariables false in
set_option maxRecDepth 100000 in
set_option maxHeartbeats 1600000 in
theorem copyCells_any (A : Option Addr) (n c : Nat) (cs : List Pag.Ce) (w : World) (hl : CeRd w w.heap.size A n cs) (hn : n ≤ 2932031007402) :
    Calls Try.prog 19 #[.slice A n c] w fun e w' => ∃ v, e = .returned v ∧ CeOwn w' w.heap.size 0 v cs ∧ Below w.heap.size w w' := by
  have HL := hide hl
  have HN := hide hl.1
  clear hl
  go_enter Try.func19, Try.ntmps19
  go_wp2_with fail
  go_loopw [3, 4] (fun v j wr => ∃ i : Nat, i ≤ n ∧ j = .int .i64 (i : Nat) ∧ CeOwn wr w.heap.size 0 v (cs.take i) ∧ Below w.heap.size w wr) (fun _ j _ => n - (intOf j).toNat)
  case atStart => exact ⟨0, Nat.zero_le _, rfl, CeOwn.nil _ _ _, Below.refl _ _⟩
  case round =>
    obtain ⟨i, hi, rfl, hown, hbel⟩ := hrel
    obtain ⟨w10, hw10⟩ : ∃ w10, w10 = wr := ⟨_, rfl⟩
    subst hw10
    have HO := hide hown
    have HB := hide hbel
    have hs10 := hbel.size
    have htl : (cs.take i).length = i := by rw [List.length_take, ← HN.out]; omega
    obtain ⟨Ao, co, hv, _, _⟩ := hown.form
    rw [htl] at hv
    subst hv
    have HTl := hide htl
    clear htl
    by_cases hlt : i < n
    · obtain ⟨g, off, f, Ak, ck, Av, cv, rfl, hgw, hf, d0, d1, hrk, hk1, hk2, hk3, hrv, hv1, hv2, hv3⟩ := (HL.out.below hbel (Nat.le_refl _)).at hlt
      have hg : g < w10.heap.size := by omega
      have HRk := hide (hrk.more hs10)
      have HRv := hide (hrv.more hs10)
      have HTk : Hid (cs.take (i + 1) = cs.take i ++ [f]) := by show _ = _; rw [List.take_add_one, hf]; rfl
      clear hown hbel hrk hrv hf
      go_upto_region 5 with fail
      have hTs := tab_stable (l := [(6, (fun u w => w.ownsRow w10.heap.size 5 1 u f.1.length (f.1.map B8))), (12, (fun u w => w.ownsRow w10.heap.size 5 1 u f.2.length (f.2.map B8)))]) (fun p hp => by
          simp only [List.mem_cons, List.not_mem_nil, or_false] at hp
          rcases hp with rfl | rfl
          · exact fun _ _ _ hu hb => own_below hu hb
          · exact fun _ _ _ hu hb => own_below hu hb)
      have hSs := shp_some (l := [(6, IsSl f.1.length), (12, IsSl f.2.length)]) (fun p hp => by
          simp only [List.mem_cons, List.not_mem_nil, or_false] at hp
          rcases hp with rfl | rfl
          · exact IsSl.some _
          · exact IsSl.some _)
      have HTs := hide hTs
      have HSs := hide hSs
      clear hTs hSs
      refine wp_region_toldL (tab [(6, (fun u w => w.ownsRow w10.heap.size 5 1 u f.1.length (f.1.map B8))), (12, (fun u w => w.ownsRow w10.heap.size 5 1 u f.2.length (f.2.map B8)))]) (Up w10) (w10.heap.size) 15 (shp [(6, IsSl f.1.length), (12, IsSl f.2.length)]) (HSs.out) (HTs.out) (Up.lives _) Gro (Gro.turns (Up.lives _) (HTs.out)) (by kernel_rfl) (by kernel_rfl) (Up.start _) (Nat.le_refl _) ?_
      simp only [List.take_succ_cons, List.take_zero, List.drop_succ_cons, List.drop_zero]
      refine wpTold_read ?_ rfl rfl (fun w' hS => ?_) ?_
      rotate_left
      · go_simp
        rfl
      go_frame
      refine wpTold_read ?_ rfl rfl (fun w' hS => ?_) ?_
      rotate_left
      · go_simp
        rfl
      go_frame
      refine wpTold_read ?_ rfl rfl (fun w' hS => ?_) ?_
      rotate_left
      · go_simp
        rfl
      go_frame
      refine wpTold_read ?_ rfl rfl (fun w' hS => ?_) ?_
      rotate_left
      · go_simp
        rfl
      go_frame
      refine wpTold_read ?_ rfl rfl (fun w' hS => ?_) ?_
      rotate_left
      · go_simp
        rfl
      go_frame
      refine wpTold_read ?_ rfl rfl (fun w' hS => ?_) ?_
      rotate_left
      · have d0' := (hS.cell (p := ⟨g, off + i * 2, none⟩) hg).trans d0
        have d1' := (hS.cell (p := ⟨g, off + i * 2 + 1, none⟩) hg).trans d1
        go_simp
        rfl
      go_frame
      refine' wpTold_call _ _ _ rfl rfl (fun w' => ?_) (fun w' hS hh hs => ?_) (fun v6 h6 => ?_)
      rotate_left 2
      · go_simp
        constructor <;> rfl
      · refine (copyBytes_any _ _ _ _ _ (by exact ((HRk.out.below hS (Nat.le_refl _)).more hS.size)) (by omega)).mono ?_
        rintro e w2 ⟨v, rfl, h1, h2⟩
        exact ⟨v, rfl, ⟨isSl_own h1, own_base h1 hh⟩, h2⟩
      obtain ⟨A6, c6, rfl⟩ := h6
      go_frame
      refine wpTold_read ?_ rfl rfl (fun w' hS => ?_) ?_
      rotate_left
      · go_simp
        rfl
      go_frame
      refine wpTold_read ?_ rfl rfl (fun w' hS => ?_) ?_
      rotate_left
      · go_simp
        rfl
      go_frame
      refine wpTold_read ?_ rfl rfl (fun w' hS => ?_) ?_
      rotate_left
      · go_simp
        rfl
      go_frame
      refine wpTold_read ?_ rfl rfl (fun w' hS => ?_) ?_
      rotate_left
      · go_simp
        rfl
      go_frame
      refine wpTold_read ?_ rfl rfl (fun w' hS => ?_) ?_
      rotate_left
      · have d0' := (hS.cell (p := ⟨g, off + i * 2, none⟩) hg).trans d0
        have d1' := (hS.cell (p := ⟨g, off + i * 2 + 1, none⟩) hg).trans d1
        go_simp
        rfl
      go_frame
      refine' wpTold_call _ _ _ rfl rfl (fun w' => ?_) (fun w' hS hh hs => ?_) (fun v12 h12 => ?_)
      rotate_left 2
      · go_simp
        constructor <;> rfl
      · refine (copyBytes_any _ _ _ _ _ (by exact ((HRv.out.below hS (Nat.le_refl _)).more hS.size)) (by omega)).mono ?_
        rintro e w2 ⟨v, rfl, h1, h2⟩
        exact ⟨v, rfl, ⟨isSl_own h1, own_base h1 hh⟩, h2⟩
      obtain ⟨A12, c12, rfl⟩ := h12
      go_frame
      refine wpTold_read ?_ rfl rfl (fun w' hS => ?_) ?_
      rotate_left
      · go_simp
        rfl
      go_frame
      refine wpTold_make (some (1, 1)) (.cells #[.slice A6 f.1.length c6, .slice A12 f.2.length c12] 41) rfl rfl (fun w' hS => ?_) fun g14 => ?_
      · go_simp
        rfl
      go_frame
      refine wpTold_nil fun w2 hH => ?_
      have h6 := hH.told 6 _ _ rfl rfl
      have h12 := hH.told 12 _ _ rfl rfl
      have h14 : Blk w2 g14 41 #[.slice A6 f.1.length c6, .slice A12 f.2.length c12] := (hH.lies 14 _ _ rfl).1
      have hup : Below w10.heap.size w10 w2 := hH.s
      have HO2 := hide (HO.out.below hup hs10)
      have HB2 := hide (HB.out.trans (hup.mono hs10))
      have H6 : Hid (Bo w2 w.heap.size 0 (.slice A6 f.1.length c6) f.1) := .inl ⟨own_base h6 hs10, hk1⟩
      have H12 : Hid (Bo w2 w.heap.size 0 (.slice A12 f.2.length c12) f.2) := .inl ⟨own_base h12 hs10, hv1⟩
      have H14 := hide h14
      have hs2 := HB2.out.size
      clear hH h6 h12 h14 hup d0 d1
      go_wp2_with (at_builtin; refine wpList_appCg rfl (.tmp 11) (.tmp 25) rfl w.heap.size 0 _ (cs.take i) rfl HO2.out g14 1 f _ _ H6.out H12.out rfl H14.out (by rw [HTl.out]; omega) hs2 ?_; intro v3 w3 ho3 hb3 hk3'; rw [← HTk.out] at ho3; have HO3 := hide ho3; have HB3 := hide (HB2.out.trans hb3); clear ho3 hb3 hk3')
      go_roundw
      case rel => exact ⟨i + 1, by omega, by go_num, HO3.out, HB3.out⟩
      case measure => simp [intOf]; omega
    · obtain rfl : i = n := by omega
      have ht : cs.take i = cs := by rw [HN.out, List.take_length]
      rw [ht] at HO
      clear hown ht hbel
      go_wp2_with fail
      go_ret
      exact ⟨_, rfl, HO.out, HB.out⟩
set_option linter.unusedVariables false in
set_option maxRecDepth 100000 in
set_option maxHeartbeats 1600000 in
theorem sameCells_any (A A' : Option Addr) (n c n' c' : Nat) (cs ds : List Pag.Ce) (w : World) (hl : CeRd w w.heap.size A n cs) (hl' : CeRd w w.heap.size A' n' ds) (hn : n ≤ maxLen) (hn' : n' ≤ maxLen) :
    Calls Try.prog 18 #[.slice A n c, .slice A' n' c'] w fun e w' => e = .returned (.bool (cs == ds)) ∧ Below w.heap.size w w' := by
  unfold maxLen at hn hn'
  have HL := hide hl
  have HL' := hide hl'
  have HN := hide hl.1
  have HN' := hide hl'.1
  clear hl hl'
  by_cases hnn : n = n'
  · subst hnn
    have t0 : ((n : Int) != (n : Int)) = false := by simp
    go_enter Try.func18, Try.ntmps18
    go_wp2_with fail
    go_loopw [5] (fun j wr => ∃ i : Nat, i ≤ n ∧ j = .int .i64 (i : Nat) ∧ Hid (cs.take i = ds.take i) ∧ Below w.heap.size w wr) (fun j _ => n - (intOf j).toNat)
    case atStart => exact ⟨0, Nat.zero_le _, rfl, by show _ = _; simp, Below.refl _ _⟩
    case round =>
      obtain ⟨i, hi, rfl, HE, hbel⟩ := hrel
      obtain ⟨w10, hw10⟩ : ∃ w10, w10 = wr := ⟨_, rfl⟩
      subst hw10
      have HB := hide hbel
      have hs10 := hbel.size
      by_cases hlt : i < n
      · obtain ⟨g, off, f, Ak, ck, Av, cv, rfl, hgw, hf, d0, d1, hrk, hk1, hk2, hk3, hrv, hv1, hv2, hv3⟩ := (HL.out.below hbel (Nat.le_refl _)).at hlt
        obtain ⟨g', off', f', Ak', ck', Av', cv', rfl, hgw', hf', d0', d1', hrk', hk1', hk2', hk3', hrv', hv1', hv2', hv3'⟩ := (HL'.out.below hbel (Nat.le_refl _)).at hlt
        have hg : g < w10.heap.size := by omega
        have hg' : g' < w10.heap.size := by omega
        have HRk := hide (hrk.more hs10)
        have HRv := hide (hrv.more hs10)
        have HRk' := hide (hrk'.more hs10)
        have HRv' := hide (hrv'.more hs10)
        have HF := hide hf
        have HF' := hide hf'
        clear hbel hrk hrv hf hrk' hrv' hf'
        have stop : f ≠ f' → (cs == ds) = false := by
          intro hne
          rw [beq_eq_false_iff_ne]
          intro e
          have h1 := HF.out
          rw [e, HF'.out] at h1
          exact hne (Option.some.inj h1).symm
        have HStop := hide stop
        clear stop
        cases e1 : (f.1 == f'.1) with
        | false =>
          have E1 := hide e1
          have HR : Hid ((cs == ds) = false) := HStop.out fun e => by rw [e] at e1; simp at e1
          clear e1
          go_upto_region 6 with fail
          have hTs := tab_stable (l := [(10, NoF)]) (fun p hp => by
              simp only [List.mem_cons, List.not_mem_nil, or_false] at hp
              subst hp
              exact NoF.stable)
          have hSs := shp_some (l := [(10, IsV (.bool false))]) (fun p hp => by
              simp only [List.mem_cons, List.not_mem_nil, or_false] at hp
              subst hp
              exact IsV.some _)
          have HTs := hide hTs
          have HSs := hide hSs
          clear hTs hSs
          refine wp_region_toldL (tab [(10, NoF)]) (Up w10) (w10.heap.size) 26 (shp [(10, IsV (.bool false))]) (HSs.out) (HTs.out) (Up.lives _) Gro (Gro.turns (Up.lives _) (HTs.out)) (by kernel_rfl) (by kernel_rfl) (Up.start _) (Nat.le_refl _) ?_
          simp only [List.take_succ_cons, List.take_zero, List.drop_succ_cons, List.drop_zero]
          refine wpTold_read ?_ rfl rfl (fun w' hS => ?_) ?_
          rotate_left
          · go_simp
            rfl
          go_frame
          refine wpTold_read ?_ rfl rfl (fun w' hS => ?_) ?_
          rotate_left
          · go_simp
            rfl
          go_frame
          refine wpTold_read ?_ rfl rfl (fun w' hS => ?_) ?_
          rotate_left
          · go_simp
            rfl
          go_frame
          refine wpTold_read ?_ rfl rfl (fun w' hS => ?_) ?_
          rotate_left
          · go_simp
            rfl
          go_frame
          refine wpTold_read ?_ rfl rfl (fun w' hS => ?_) ?_
          rotate_left
          · have c0' := (hS.cell (p := ⟨g, off + i * 2, none⟩) hg).trans d0
            have c1' := (hS.cell (p := ⟨g, off + i * 2 + 1, none⟩) hg).trans d1
            have c2' := (hS.cell (p := ⟨g', off' + i * 2, none⟩) hg').trans d0'
            have c3' := (hS.cell (p := ⟨g', off' + i * 2 + 1, none⟩) hg').trans d1'
            go_simp
            rfl
          go_frame
          refine wpTold_read ?_ rfl rfl (fun w' hS => ?_) ?_
          rotate_left
          · go_simp
            rfl
          go_frame
          refine wpTold_read ?_ rfl rfl (fun w' hS => ?_) ?_
          rotate_left
          · go_simp
            rfl
          go_frame
          refine wpTold_read ?_ rfl rfl (fun w' hS => ?_) ?_
          rotate_left
          · go_simp
            rfl
          go_frame
          refine wpTold_read ?_ rfl rfl (fun w' hS => ?_) ?_
          rotate_left
          · go_simp
            rfl
          go_frame
          refine wpTold_read ?_ rfl rfl (fun w' hS => ?_) ?_
          rotate_left
          · have c0' := (hS.cell (p := ⟨g, off + i * 2, none⟩) hg).trans d0
            have c1' := (hS.cell (p := ⟨g, off + i * 2 + 1, none⟩) hg).trans d1
            have c2' := (hS.cell (p := ⟨g', off' + i * 2, none⟩) hg').trans d0'
            have c3' := (hS.cell (p := ⟨g', off' + i * 2 + 1, none⟩) hg').trans d1'
            go_simp
            rfl
          go_frame
          refine' wpTold_call _ _ _ rfl rfl (fun w' => ?_) (fun w' hS hh hs => ?_) (fun v10 h10 => ?_)
          rotate_left 2
          · go_simp
            constructor <;> rfl
          · refine (sameBytes_any _ _ _ _ _ _ _ _ _ _ _ (by exact HRk.out.below hS (Nat.le_refl _)) (by exact HRk'.out.below hS (Nat.le_refl _))).mono ?_
            rintro e w2 ⟨rfl, rfl⟩
            rw [E1.out]
            exact ⟨_, rfl, ⟨rfl, trivial⟩, Below.refl _ _⟩
          obtain rfl := h10
          go_frame
          refine wpTold_read ?_ rfl rfl (fun w' hS => ?_) ?_
          rotate_left
          · go_simp
            rfl
          go_frame
          refine wpTold_read ?_ rfl rfl (fun w' hS => ?_) ?_
          rotate_left
          · go_simp
            rfl
          go_frame
          refine wpTold_skip rfl rfl ?_
          go_frame
          refine wpTold_skip rfl rfl ?_
          go_frame
          refine wpTold_skip rfl rfl ?_
          go_frame
          refine wpTold_skip rfl rfl ?_
          go_frame
          refine wpTold_skip rfl rfl ?_
          go_frame
          refine wpTold_skip rfl rfl ?_
          go_frame
          refine wpTold_skip rfl rfl ?_
          go_frame
          refine wpTold_skip rfl rfl ?_
          go_frame
          refine wpTold_skip rfl rfl ?_
          go_frame
          refine wpTold_skip rfl rfl ?_
          go_frame
          refine wpTold_skip rfl rfl ?_
          go_frame
          refine wpTold_skip rfl rfl ?_
          go_frame
          refine wpTold_read ?_ rfl rfl (fun w' hS => ?_) ?_
          rotate_left
          · go_simp
            rfl
          go_frame
          refine wpTold_nil fun w2 hH => ?_
          have HB2 := hide (HB.out.trans (hH.s.mono hs10))
          clear hH d0 d1 d0' d1'
          go_wp2_with fail
          go_ret
          exact ⟨by rw [HR.out]; rfl, HB2.out⟩
        | true =>
          have E1 := hide e1
          clear e1
          cases e2 : (f.2 == f'.2) with
          | false =>
            have E2 := hide e2
            have HR : Hid ((cs == ds) = false) := HStop.out fun e => by rw [e] at e2; simp at e2
            clear e2
            go_upto_region 6 with fail
            have hTs := tab_stable (l := [(10, NoF), (23, NoF)]) (fun p hp => by
                simp only [List.mem_cons, List.not_mem_nil, or_false] at hp
                rcases hp with rfl | rfl
                · exact NoF.stable
                · exact NoF.stable)
            have hSs := shp_some (l := [(10, IsV (.bool true)), (23, IsV (.bool false))]) (fun p hp => by
                simp only [List.mem_cons, List.not_mem_nil, or_false] at hp
                rcases hp with rfl | rfl
                · exact IsV.some _
                · exact IsV.some _)
            have HTs := hide hTs
            have HSs := hide hSs
            clear hTs hSs
            refine wp_region_toldL (tab [(10, NoF), (23, NoF)]) (Up w10) (w10.heap.size) 26 (shp [(10, IsV (.bool true)), (23, IsV (.bool false))]) (HSs.out) (HTs.out) (Up.lives _) Gro (Gro.turns (Up.lives _) (HTs.out)) (by kernel_rfl) (by kernel_rfl) (Up.start _) (Nat.le_refl _) ?_
            simp only [List.take_succ_cons, List.take_zero, List.drop_succ_cons, List.drop_zero]
            refine wpTold_read ?_ rfl rfl (fun w' hS => ?_) ?_
            rotate_left
            · go_simp
              rfl
            go_frame
            refine wpTold_read ?_ rfl rfl (fun w' hS => ?_) ?_
            rotate_left
            · go_simp
              rfl
            go_frame
            refine wpTold_read ?_ rfl rfl (fun w' hS => ?_) ?_
            rotate_left
            · go_simp
              rfl
            go_frame
            refine wpTold_read ?_ rfl rfl (fun w' hS => ?_) ?_
            rotate_left
            · go_simp
              rfl
            go_frame
            refine wpTold_read ?_ rfl rfl (fun w' hS => ?_) ?_
            rotate_left
            · have c0' := (hS.cell (p := ⟨g, off + i * 2, none⟩) hg).trans d0
              have c1' := (hS.cell (p := ⟨g, off + i * 2 + 1, none⟩) hg).trans d1
              have c2' := (hS.cell (p := ⟨g', off' + i * 2, none⟩) hg').trans d0'
              have c3' := (hS.cell (p := ⟨g', off' + i * 2 + 1, none⟩) hg').trans d1'
              go_simp
              rfl
            go_frame
            refine wpTold_read ?_ rfl rfl (fun w' hS => ?_) ?_
            rotate_left
            · go_simp
              rfl
            go_frame
            refine wpTold_read ?_ rfl rfl (fun w' hS => ?_) ?_
            rotate_left
            · go_simp
              rfl
            go_frame
            refine wpTold_read ?_ rfl rfl (fun w' hS => ?_) ?_
            rotate_left
            · go_simp
              rfl
            go_frame
            refine wpTold_read ?_ rfl rfl (fun w' hS => ?_) ?_
            rotate_left
            · go_simp
              rfl
            go_frame
            refine wpTold_read ?_ rfl rfl (fun w' hS => ?_) ?_
            rotate_left
            · have c0' := (hS.cell (p := ⟨g, off + i * 2, none⟩) hg).trans d0
              have c1' := (hS.cell (p := ⟨g, off + i * 2 + 1, none⟩) hg).trans d1
              have c2' := (hS.cell (p := ⟨g', off' + i * 2, none⟩) hg').trans d0'
              have c3' := (hS.cell (p := ⟨g', off' + i * 2 + 1, none⟩) hg').trans d1'
              go_simp
              rfl
            go_frame
            refine' wpTold_call _ _ _ rfl rfl (fun w' => ?_) (fun w' hS hh hs => ?_) (fun v10 h10 => ?_)
            rotate_left 2
            · go_simp
              constructor <;> rfl
            · refine (sameBytes_any _ _ _ _ _ _ _ _ _ _ _ (by exact HRk.out.below hS (Nat.le_refl _)) (by exact HRk'.out.below hS (Nat.le_refl _))).mono ?_
              rintro e w2 ⟨rfl, rfl⟩
              rw [E1.out]
              exact ⟨_, rfl, ⟨rfl, trivial⟩, Below.refl _ _⟩
            obtain rfl := h10
            go_frame
            refine wpTold_read ?_ rfl rfl (fun w' hS => ?_) ?_
            rotate_left
            · go_simp
              rfl
            go_frame
            refine wpTold_read ?_ rfl rfl (fun w' hS => ?_) ?_
            rotate_left
            · go_simp
              rfl
            go_frame
            refine wpTold_read ?_ rfl rfl (fun w' hS => ?_) ?_
            rotate_left
            · go_simp
              rfl
            go_frame
            refine wpTold_read ?_ rfl rfl (fun w' hS => ?_) ?_
            rotate_left
            · go_simp
              rfl
            go_frame
            refine wpTold_read ?_ rfl rfl (fun w' hS => ?_) ?_
            rotate_left
            · go_simp
              rfl
            go_frame
            refine wpTold_read ?_ rfl rfl (fun w' hS => ?_) ?_
            rotate_left
            · go_simp
              rfl
            go_frame
            refine wpTold_read ?_ rfl rfl (fun w' hS => ?_) ?_
            rotate_left
            · have c0' := (hS.cell (p := ⟨g, off + i * 2, none⟩) hg).trans d0
              have c1' := (hS.cell (p := ⟨g, off + i * 2 + 1, none⟩) hg).trans d1
              have c2' := (hS.cell (p := ⟨g', off' + i * 2, none⟩) hg').trans d0'
              have c3' := (hS.cell (p := ⟨g', off' + i * 2 + 1, none⟩) hg').trans d1'
              go_simp
              rfl
            go_frame
            refine wpTold_read ?_ rfl rfl (fun w' hS => ?_) ?_
            rotate_left
            · go_simp
              rfl
            go_frame
            refine wpTold_read ?_ rfl rfl (fun w' hS => ?_) ?_
            rotate_left
            · go_simp
              rfl
            go_frame
            refine wpTold_read ?_ rfl rfl (fun w' hS => ?_) ?_
            rotate_left
            · go_simp
              rfl
            go_frame
            refine wpTold_read ?_ rfl rfl (fun w' hS => ?_) ?_
            rotate_left
            · go_simp
              rfl
            go_frame
            refine wpTold_read ?_ rfl rfl (fun w' hS => ?_) ?_
            rotate_left
            · have c0' := (hS.cell (p := ⟨g, off + i * 2, none⟩) hg).trans d0
              have c1' := (hS.cell (p := ⟨g, off + i * 2 + 1, none⟩) hg).trans d1
              have c2' := (hS.cell (p := ⟨g', off' + i * 2, none⟩) hg').trans d0'
              have c3' := (hS.cell (p := ⟨g', off' + i * 2 + 1, none⟩) hg').trans d1'
              go_simp
              rfl
            go_frame
            refine' wpTold_call _ _ _ rfl rfl (fun w' => ?_) (fun w' hS hh hs => ?_) (fun v23 h23 => ?_)
            rotate_left 2
            · go_simp
              constructor <;> rfl
            · refine (sameBytes_any _ _ _ _ _ _ _ _ _ _ _ (by exact HRv.out.below hS (Nat.le_refl _)) (by exact HRv'.out.below hS (Nat.le_refl _))).mono ?_
              rintro e w2 ⟨rfl, rfl⟩
              rw [E2.out]
              exact ⟨_, rfl, ⟨rfl, trivial⟩, Below.refl _ _⟩
            obtain rfl := h23
            go_frame
            refine wpTold_read ?_ rfl rfl (fun w' hS => ?_) ?_
            rotate_left
            · go_simp
              rfl
            go_frame
            refine wpTold_read ?_ rfl rfl (fun w' hS => ?_) ?_
            rotate_left
            · go_simp
              rfl
            go_frame
            refine wpTold_nil fun w2 hH => ?_
            have HB2 := hide (HB.out.trans (hH.s.mono hs10))
            clear hH d0 d1 d0' d1'
            go_wp2_with fail
            go_ret
            exact ⟨by rw [HR.out]; rfl, HB2.out⟩
          | true =>
            have E2 := hide e2
            clear e2
            go_upto_region 6 with fail
            have hTs := tab_stable (l := [(10, NoF), (23, NoF)]) (fun p hp => by
                simp only [List.mem_cons, List.not_mem_nil, or_false] at hp
                rcases hp with rfl | rfl
                · exact NoF.stable
                · exact NoF.stable)
            have hSs := shp_some (l := [(10, IsV (.bool true)), (23, IsV (.bool true))]) (fun p hp => by
                simp only [List.mem_cons, List.not_mem_nil, or_false] at hp
                rcases hp with rfl | rfl
                · exact IsV.some _
                · exact IsV.some _)
            have HTs := hide hTs
            have HSs := hide hSs
            clear hTs hSs
            refine wp_region_toldL (tab [(10, NoF), (23, NoF)]) (Up w10) (w10.heap.size) 26 (shp [(10, IsV (.bool true)), (23, IsV (.bool true))]) (HSs.out) (HTs.out) (Up.lives _) Gro (Gro.turns (Up.lives _) (HTs.out)) (by kernel_rfl) (by kernel_rfl) (Up.start _) (Nat.le_refl _) ?_
            simp only [List.take_succ_cons, List.take_zero, List.drop_succ_cons, List.drop_zero]
            refine wpTold_read ?_ rfl rfl (fun w' hS => ?_) ?_
            rotate_left
            · go_simp
              rfl
            go_frame
            refine wpTold_read ?_ rfl rfl (fun w' hS => ?_) ?_
            rotate_left
            · go_simp
              rfl
            go_frame
            refine wpTold_read ?_ rfl rfl (fun w' hS => ?_) ?_
            rotate_left
            · go_simp
              rfl
            go_frame
            refine wpTold_read ?_ rfl rfl (fun w' hS => ?_) ?_
            rotate_left
            · go_simp
              rfl
            go_frame
            refine wpTold_read ?_ rfl rfl (fun w' hS => ?_) ?_
            rotate_left
            · have c0' := (hS.cell (p := ⟨g, off + i * 2, none⟩) hg).trans d0
              have c1' := (hS.cell (p := ⟨g, off + i * 2 + 1, none⟩) hg).trans d1
              have c2' := (hS.cell (p := ⟨g', off' + i * 2, none⟩) hg').trans d0'
              have c3' := (hS.cell (p := ⟨g', off' + i * 2 + 1, none⟩) hg').trans d1'
              go_simp
              rfl
            go_frame
            refine wpTold_read ?_ rfl rfl (fun w' hS => ?_) ?_
            rotate_left
            · go_simp
              rfl
            go_frame
            refine wpTold_read ?_ rfl rfl (fun w' hS => ?_) ?_
            rotate_left
            · go_simp
              rfl
            go_frame
            refine wpTold_read ?_ rfl rfl (fun w' hS => ?_) ?_
            rotate_left
            · go_simp
              rfl
            go_frame
            refine wpTold_read ?_ rfl rfl (fun w' hS => ?_) ?_
            rotate_left
            · go_simp
              rfl
            go_frame
            refine wpTold_read ?_ rfl rfl (fun w' hS => ?_) ?_
            rotate_left
            · have c0' := (hS.cell (p := ⟨g, off + i * 2, none⟩) hg).trans d0
              have c1' := (hS.cell (p := ⟨g, off + i * 2 + 1, none⟩) hg).trans d1
              have c2' := (hS.cell (p := ⟨g', off' + i * 2, none⟩) hg').trans d0'
              have c3' := (hS.cell (p := ⟨g', off' + i * 2 + 1, none⟩) hg').trans d1'
              go_simp
              rfl
            go_frame
            refine' wpTold_call _ _ _ rfl rfl (fun w' => ?_) (fun w' hS hh hs => ?_) (fun v10 h10 => ?_)
            rotate_left 2
            · go_simp
              constructor <;> rfl
            · refine (sameBytes_any _ _ _ _ _ _ _ _ _ _ _ (by exact HRk.out.below hS (Nat.le_refl _)) (by exact HRk'.out.below hS (Nat.le_refl _))).mono ?_
              rintro e w2 ⟨rfl, rfl⟩
              rw [E1.out]
              exact ⟨_, rfl, ⟨rfl, trivial⟩, Below.refl _ _⟩
            obtain rfl := h10
            go_frame
            refine wpTold_read ?_ rfl rfl (fun w' hS => ?_) ?_
            rotate_left
            · go_simp
              rfl
            go_frame
            refine wpTold_read ?_ rfl rfl (fun w' hS => ?_) ?_
            rotate_left
            · go_simp
              rfl
            go_frame
            refine wpTold_read ?_ rfl rfl (fun w' hS => ?_) ?_
            rotate_left
            · go_simp
              rfl
            go_frame
            refine wpTold_read ?_ rfl rfl (fun w' hS => ?_) ?_
            rotate_left
            · go_simp
              rfl
            go_frame
            refine wpTold_read ?_ rfl rfl (fun w' hS => ?_) ?_
            rotate_left
            · go_simp
              rfl
            go_frame
            refine wpTold_read ?_ rfl rfl (fun w' hS => ?_) ?_
            rotate_left
            · go_simp
              rfl
            go_frame
            refine wpTold_read ?_ rfl rfl (fun w' hS => ?_) ?_
            rotate_left
            · have c0' := (hS.cell (p := ⟨g, off + i * 2, none⟩) hg).trans d0
              have c1' := (hS.cell (p := ⟨g, off + i * 2 + 1, none⟩) hg).trans d1
              have c2' := (hS.cell (p := ⟨g', off' + i * 2, none⟩) hg').trans d0'
              have c3' := (hS.cell (p := ⟨g', off' + i * 2 + 1, none⟩) hg').trans d1'
              go_simp
              rfl
            go_frame
            refine wpTold_read ?_ rfl rfl (fun w' hS => ?_) ?_
            rotate_left
            · go_simp
              rfl
            go_frame
            refine wpTold_read ?_ rfl rfl (fun w' hS => ?_) ?_
            rotate_left
            · go_simp
              rfl
            go_frame
            refine wpTold_read ?_ rfl rfl (fun w' hS => ?_) ?_
            rotate_left
            · go_simp
              rfl
            go_frame
            refine wpTold_read ?_ rfl rfl (fun w' hS => ?_) ?_
            rotate_left
            · go_simp
              rfl
            go_frame
            refine wpTold_read ?_ rfl rfl (fun w' hS => ?_) ?_
            rotate_left
            · have c0' := (hS.cell (p := ⟨g, off + i * 2, none⟩) hg).trans d0
              have c1' := (hS.cell (p := ⟨g, off + i * 2 + 1, none⟩) hg).trans d1
              have c2' := (hS.cell (p := ⟨g', off' + i * 2, none⟩) hg').trans d0'
              have c3' := (hS.cell (p := ⟨g', off' + i * 2 + 1, none⟩) hg').trans d1'
              go_simp
              rfl
            go_frame
            refine' wpTold_call _ _ _ rfl rfl (fun w' => ?_) (fun w' hS hh hs => ?_) (fun v23 h23 => ?_)
            rotate_left 2
            · go_simp
              constructor <;> rfl
            · refine (sameBytes_any _ _ _ _ _ _ _ _ _ _ _ (by exact HRv.out.below hS (Nat.le_refl _)) (by exact HRv'.out.below hS (Nat.le_refl _))).mono ?_
              rintro e w2 ⟨rfl, rfl⟩
              rw [E2.out]
              exact ⟨_, rfl, ⟨rfl, trivial⟩, Below.refl _ _⟩
            obtain rfl := h23
            go_frame
            refine wpTold_read ?_ rfl rfl (fun w' hS => ?_) ?_
            rotate_left
            · go_simp
              rfl
            go_frame
            refine wpTold_read ?_ rfl rfl (fun w' hS => ?_) ?_
            rotate_left
            · go_simp
              rfl
            go_frame
            refine wpTold_nil fun w2 hH => ?_
            have HB2 := hide (HB.out.trans (hH.s.mono hs10))
            clear hH d0 d1 d0' d1'
            have HNx : Hid (cs.take (i + 1) = ds.take (i + 1)) := by
              show _ = _
              have e1 := E1.out
              have e2 := E2.out
              have hff : f = f' := Prod.ext (by simpa using e1) (by simpa using e2)
              rw [List.take_add_one, List.take_add_one, HE.out, HF.out, HF'.out, hff]
            go_wp2_with fail
            go_roundw
            case rel => exact ⟨i + 1, by omega, by go_num, HNx, HB2.out⟩
            case measure => simp [intOf]; omega
      · obtain rfl : i = n := by omega
        have HR : Hid ((cs == ds) = true) := by
          show _ = _
          have h := HE.out
          conv at h => lhs; rw [HN.out]
          conv at h => rhs; rw [HN'.out]
          rw [List.take_length, List.take_length] at h
          simp [h]
        clear hbel
        go_wp2_with fail
        go_ret
        exact ⟨by rw [HR.out]; rfl, HB.out⟩
  · have t0 : ((n : Int) != (n' : Int)) = true := by simp; omega
    have HR : Hid ((cs == ds) = false) := by
      show _ = _
      rw [beq_eq_false_iff_ne]
      intro e
      exact hnn (by rw [HN.out, HN'.out, e])
    go_enter Try.func18, Try.ntmps18
    go_wp2_with fail
    go_ret
    exact ⟨by rw [HR.out]; rfl, Below.refl _ _⟩
theorem results_page1 {fn : Func} {p : Tmp} {tmps : Array Value} {w : World} {g : Nat} {k nx c : Value} (h : fn.results = #[.cell p 25]) (hk : Blk w g 25 #[k, nx, c]) (hp : tmps.getD p undef = .pointer (some ⟨g, 0, none⟩)) :
    (results fn tmps).run Try.prog w = .ok (.agg #[k, nx, c]) w := by
  have r0 := hk.cell 0
  have r1 := hk.cell 1
  have r2 := hk.cell 2
  simp at r0 r1 r2
  rw [Array.getD_eq_getD_getElem?] at hp
  simp only [results, h]
  simp [go_sem, hp, r0, r1, r2]
/-- A page that is read. -/
def PgRd (w : World) (v : Value) (p : Pag.Pg) : Prop := ∃ A n c, v = .agg #[.int .u8 (p.kind.toNat : Int), .int .i64 p.next, .slice A n c] ∧ CeRd w w.heap.size A n p.cells ∧ n ≤ 2932031007402
set_option linter.unusedVariables false in
set_option maxRecDepth 100000 in
set_option maxHeartbeats 1600000 in
theorem copyPage_any (kd : UInt8) (nx : Int) (A : Option Addr) (n c : Nat) (cs : List Pag.Ce) (w : World) (hl : CeRd w w.heap.size A n cs) (hn : n ≤ 2932031007402) :
    Calls Try.prog 8 #[.agg #[.int .u8 (kd.toNat : Int), .int .i64 nx, .slice A n c]] w fun e w' => ∃ v, e = .returned v ∧ PgOwn w' w.heap.size v ⟨kd, nx, cs⟩ ∧ Below w.heap.size w w' := by
  have HL := hide hl
  clear hl
  obtain ⟨w1, hw1⟩ : ∃ w1, w1 = w.alloc (.cells #[.int .u8 (kd.toNat : Int), .int .i64 nx, .slice A n c] 25) := ⟨_, rfl⟩
  have HK1 : Hid (Blk w1 w.heap.size 25 #[.int .u8 (kd.toNat : Int), .int .i64 nx, .slice A n c]) := by rw [hw1]; exact Blk.new _ _ _
  have HB1 : Hid (Below w.heap.size w w1) := by rw [hw1]; exact (Below.refl _ _).alloc (Nat.le_refl _) _
  have hs1 : w1.heap.size = w.heap.size + 1 := by rw [hw1]; simp
  obtain ⟨w2, hw2⟩ : ∃ w2, w2 = w1.alloc (.cells #[.int .u8 0, .int .i64 0, .slice none 0 0] 25) := ⟨_, rfl⟩
  have HZ2 : Hid (Blk w2 (w.heap.size + 1) 25 #[.int .u8 0, .int .i64 0, .slice none 0 0]) := by rw [hw2, ← hs1]; exact Blk.new _ _ _
  have hb2 : Below w1.heap.size w1 w2 := by rw [hw2]; exact (Below.refl _ _).alloc (Nat.le_refl _) _
  have HB2 := hide (HB1.out.trans (hb2.mono (by omega)))
  have HK2 := hide (HK1.out.below hb2 (by omega))
  have hs2 : w2.heap.size = w.heap.size + 2 := by rw [hw2]; simp [hs1]
  have HL2 := hide ((HL.out.below HB2.out (Nat.le_refl _)).more (C := w2.heap.size) (by omega))
  have hb0 : w.heap.size < w2.heap.size := by omega
  have hb1 : w.heap.size + 1 < w2.heap.size := by omega
  have HS1 := hide hs1
  have HS2 := hide hs2
  clear hb2 hs1 hs2
  have k0 := HK2.out.cell 0
  have k1 := HK2.out.cell 1
  have k2 := HK2.out.cell 2
  simp at k0 k1 k2
  go_enter Try.func8, Try.ntmps8
  go_upto_region 1 with fail
  rw [← hw1, ← hw2]
  clear hw1 hw2
  have hTs := tab_stable (l := [(6, (fun u w => w2.heap.size ≤ w.heap.size ∧ CeOwn w w2.heap.size 0 u cs))]) (fun p hp => by
      simp only [List.mem_cons, List.not_mem_nil, or_false] at hp
      subst hp
      exact fun _ _ _ hu hb => ⟨Nat.le_trans hu.1 hb.size, hu.2.below hb hu.1⟩)
  have hSs := shp_some (l := [(6, IsSl cs.length)]) (fun p hp => by
      simp only [List.mem_cons, List.not_mem_nil, or_false] at hp
      subst hp
      exact IsSl.some _)
  have HTs := hide hTs
  have HSs := hide hSs
  clear hTs hSs
  refine wp_region_toldL (tab [(6, (fun u w => w2.heap.size ≤ w.heap.size ∧ CeOwn w w2.heap.size 0 u cs))]) (Up w2) (w2.heap.size) 8 (shp [(6, IsSl cs.length)]) (HSs.out) (HTs.out) (Up.lives _) Gro (Gro.turns (Up.lives _) (HTs.out)) (by kernel_rfl) (by kernel_rfl) (Up.start _) (Nat.le_refl _) ?_
  simp only [List.take_succ_cons, List.take_zero, List.drop_succ_cons, List.drop_zero]
  refine wpTold_read ?_ rfl rfl (fun w' hS => ?_) ?_
  rotate_left
  · go_simp
    rfl
  go_frame
  refine wpTold_read ?_ rfl rfl (fun w' hS => ?_) ?_
  rotate_left
  · have c0' := (hS.cell (p := ⟨w.heap.size, 0, none⟩) hb0).trans k0
    have c1' := (hS.cell (p := ⟨w.heap.size, 1, none⟩) hb0).trans k1
    have c2' := (hS.cell (p := ⟨w.heap.size, 2, none⟩) hb0).trans k2
    go_simp
    rfl
  go_frame
  refine wpTold_read ?_ rfl rfl (fun w' hS => ?_) ?_
  rotate_left
  · go_simp
    rfl
  go_frame
  refine wpTold_read ?_ rfl rfl (fun w' hS => ?_) ?_
  rotate_left
  · have c0' := (hS.cell (p := ⟨w.heap.size, 0, none⟩) hb0).trans k0
    have c1' := (hS.cell (p := ⟨w.heap.size, 1, none⟩) hb0).trans k1
    have c2' := (hS.cell (p := ⟨w.heap.size, 2, none⟩) hb0).trans k2
    go_simp
    rfl
  go_frame
  refine wpTold_read ?_ rfl rfl (fun w' hS => ?_) ?_
  rotate_left
  · go_simp
    rfl
  go_frame
  refine wpTold_read ?_ rfl rfl (fun w' hS => ?_) ?_
  rotate_left
  · have c0' := (hS.cell (p := ⟨w.heap.size, 0, none⟩) hb0).trans k0
    have c1' := (hS.cell (p := ⟨w.heap.size, 1, none⟩) hb0).trans k1
    have c2' := (hS.cell (p := ⟨w.heap.size, 2, none⟩) hb0).trans k2
    go_simp
    rfl
  go_frame
  refine' wpTold_call _ _ _ rfl rfl (fun w' => ?_) (fun w' hS hh hs => ?_) (fun v6 h6 => ?_)
  rotate_left 2
  · go_simp
    constructor <;> rfl
  · refine (copyCells_any _ _ _ _ _ (by exact (HL2.out.below hS (Nat.le_refl _)).more hS.size) hn).mono ?_
    rintro e w3 ⟨v, rfl, h1, h2⟩
    exact ⟨v, rfl, ⟨by obtain ⟨A, c, e, _⟩ := h1.form; exact ⟨A, c, e⟩, Nat.le_trans hh h2.size, h1.base hh (Nat.zero_le _)⟩, h2⟩
  obtain ⟨A6, c6, rfl⟩ := h6
  go_frame
  refine wpTold_read ?_ rfl rfl (fun w' hS => ?_) ?_
  rotate_left
  · go_simp
    rfl
  go_frame
  refine wpTold_nil fun w3 hH => ?_
  have h6 := (hH.told 6 _ _ rfl rfl).2
  have hup : Below w2.heap.size w2 w3 := hH.s
  have HB3 := hide (HB2.out.trans (hup.mono (Nat.le_of_lt hb0)))
  have HZ3 := hide (HZ2.out.below hup hb1)
  have HO3 := hide h6
  clear hH h6 hup k0 k1 k2
  have f0 := HZ3.out.frozen 0
  have f1 := HZ3.out.frozen 1
  have f2 := HZ3.out.frozen 2
  have z0 := HZ3.out.cell 0
  have z1 := HZ3.out.cell 1
  have z2 := HZ3.out.cell 2
  simp at z0 z1 z2
  go_wp2_with fail
  refine bodyPost_ret (v := .agg #[.int .u8 (kd.toNat : Int), .int .i64 nx, .slice A6 cs.length c6]) (results_page1 rfl (blk3 HZ3.out _ _ _) rfl) rfl ⟨_, rfl, ⟨A6, c6, rfl, ?_⟩, below3 HB3.out (Nat.le_succ _) _ _ _⟩
  have ho := HO3.out.base (lo' := w.heap.size) (Nat.le_of_lt hb0) (Nat.zero_le _)
  exact ((ho.box HZ3.out (Nat.le_succ _) 0 _).box (by simpa using HZ3.out.put 0 (.int .u8 (kd.toNat : Int))) (Nat.le_succ _) 1 _).box (by simpa using (HZ3.out.put 0 (.int .u8 (kd.toNat : Int))).put 1 (.int .i64 nx)) (Nat.le_succ _) 2 _
def pgB (p q : Pag.Pg) : Bool := p.kind == q.kind && p.next == q.next && p.cells == q.cells
theorem pgB_refl (p : Pag.Pg) : pgB p p = true := by simp [pgB]
theorem pgB_eq {p q : Pag.Pg} (h : pgB p q = true) : p = q := by
  unfold pgB at h
  simp only [Bool.and_eq_true, beq_iff_eq] at h
  obtain ⟨⟨h1, h2⟩, h3⟩ := h
  cases p
  cases q
  simp only at h1 h2 h3
  subst h1 h2 h3
  rfl
set_option linter.unusedVariables false in
set_option maxRecDepth 100000 in
set_option maxHeartbeats 1600000 in
theorem samePage_any (kd : UInt8) (nx : Int) (A : Option Addr) (n c : Nat) (cs : List Pag.Ce) (kd' : UInt8) (nx' : Int) (A' : Option Addr) (n' c' : Nat) (cs' : List Pag.Ce) (w : World) (hl : CeRd w w.heap.size A n cs) (hl' : CeRd w w.heap.size A' n' cs') (hn : n ≤ maxLen) (hn' : n' ≤ maxLen) :
    Calls Try.prog 14 #[.agg #[.int .u8 (kd.toNat : Int), .int .i64 nx, .slice A n c], .agg #[.int .u8 (kd'.toNat : Int), .int .i64 nx', .slice A' n' c']] w fun e w' => e = .returned (.bool (pgB ⟨kd, nx, cs⟩ ⟨kd', nx', cs'⟩)) ∧ Below w.heap.size w w' := by
  have HL := hide hl
  have HL' := hide hl'
  clear hl hl'
  obtain ⟨w1, hw1⟩ : ∃ w1, w1 = w.alloc (.cells #[.int .u8 (kd.toNat : Int), .int .i64 nx, .slice A n c] 25) := ⟨_, rfl⟩
  have HK1 : Hid (Blk w1 w.heap.size 25 #[.int .u8 (kd.toNat : Int), .int .i64 nx, .slice A n c]) := by rw [hw1]; exact Blk.new _ _ _
  have HB1 : Hid (Below w.heap.size w w1) := by rw [hw1]; exact (Below.refl _ _).alloc (Nat.le_refl _) _
  have hs1 : w1.heap.size = w.heap.size + 1 := by rw [hw1]; simp
  obtain ⟨w2, hw2⟩ : ∃ w2, w2 = w1.alloc (.cells #[.int .u8 (kd'.toNat : Int), .int .i64 nx', .slice A' n' c'] 25) := ⟨_, rfl⟩
  have HZ2 : Hid (Blk w2 (w.heap.size + 1) 25 #[.int .u8 (kd'.toNat : Int), .int .i64 nx', .slice A' n' c']) := by rw [hw2, ← hs1]; exact Blk.new _ _ _
  have hb2 : Below w1.heap.size w1 w2 := by rw [hw2]; exact (Below.refl _ _).alloc (Nat.le_refl _) _
  have HB2 := hide (HB1.out.trans (hb2.mono (by omega)))
  have HK2 := hide (HK1.out.below hb2 (by omega))
  have hs2 : w2.heap.size = w.heap.size + 2 := by rw [hw2]; simp [hs1]
  have HL2 := hide ((HL.out.below HB2.out (Nat.le_refl _)).more (C := w2.heap.size) (by omega))
  have HL2' := hide ((HL'.out.below HB2.out (Nat.le_refl _)).more (C := w2.heap.size) (by omega))
  have hb0 : w.heap.size < w2.heap.size := by omega
  clear hb2 hs1 hs2
  have k0 := HK2.out.cell 0
  have k1 := HK2.out.cell 1
  have k2 := HK2.out.cell 2
  have z0 := HZ2.out.cell 0
  have z1 := HZ2.out.cell 1
  have z2 := HZ2.out.cell 2
  simp at k0 k1 k2 z0 z1 z2
  by_cases hk : kd = kd'
  · subst hk
    by_cases hx : nx = nx'
    · subst hx
      have HR : Hid (pgB ⟨kd, nx, cs⟩ ⟨kd, nx, cs'⟩ = (cs == cs')) := by show _ = _; simp [pgB]
      go_enter Try.func14, Try.ntmps14
      go_upto_region 1 with fail
      rw [← hw1, ← hw2]
      clear hw1 hw2
      go_wp2_with fail
      with_reducible refine (sameCells_any A A' n c n' c' cs cs' _ HL2.out HL2'.out hn hn').mono ?_
      rintro e w3 ⟨rfl, hb3⟩
      have HB3 := hide (HB2.out.trans (hb3.mono (Nat.le_of_lt hb0)))
      clear hb3 k0 k1 k2 z0 z1 z2
      go_wp2_with fail
      go_ret
      exact ⟨by rw [HR.out]; rfl, HB3.out⟩
    · have HR : Hid (pgB ⟨kd, nx, cs⟩ ⟨kd, nx', cs'⟩ = false) := by show _ = _; simp [pgB, hx]
      have t1 : (nx == nx') = false := by simp [hx]
      go_enter Try.func14, Try.ntmps14
      go_upto_region 1 with fail
      rw [← hw1, ← hw2]
      clear hw1 hw2
      go_wp2_with fail
      go_ret
      exact ⟨by rw [HR.out]; rfl, HB2.out⟩
  · have HR : Hid (pgB ⟨kd, nx, cs⟩ ⟨kd', nx', cs'⟩ = false) := by show _ = _; simp [pgB, hk]
    have t1 : ((kd.toNat : Int) == (kd'.toNat : Int)) = false := by
      rw [beq_eq_false_iff_ne]
      intro e
      exact hk (UInt8.toNat_inj.1 (by omega))
    go_enter Try.func14, Try.ntmps14
    go_upto_region 1 with fail
    rw [← hw1, ← hw2]
    clear hw1 hw2
    go_wp2_with fail
    go_ret
    exact ⟨by rw [HR.out]; rfl, HB2.out⟩
end Go.Proofs.Ytpoilndlfbmhgaa
