/-
  The walk of the reference's Put. Conditions: the bytes read as lists.
-/
import Derived.Test.YtpoilndlfbmhgaaRefDrop
namespace Go.Proofs.Ytpoilndlfbmhgaa
open Go.RowKit

theorem CeOwn.two {w : World} {lo k n c : Nat} {A : Option Addr} {cs : List Pag.Ce} (h : CeOwn w lo k (.slice A n c) cs) : (A = none ∧ n = 0 ∧ c = 0) ∨ ∃ g, A = some ⟨g, 0, none⟩ ∧ g < w.heap.size := by
  obtain ⟨bs, _, h2, _⟩ := h
  rcases h2.2 with ⟨e, e0⟩ | ⟨g, cap, cur, e, hb, hg, _⟩
  · injection e with e1 e2 e3
    exact .inl ⟨e1, e2, e3⟩
  · injection e with e1 e2 e3
    exact .inr ⟨g, e1, lt_of_block hg⟩
/-- 'l[:i]' and 'l[i:]' of cells. -/
theorem cells_cut (A : Option Addr) (n c i : Nat) (h : (A = none ∧ n = 0 ∧ c = 0) ∨ ∃ g, A = some ⟨g, 0, none⟩) (hi : i ≤ n) (hc : n ≤ c) : ∃ A', (∀ w, (Instr.sliceAt 23 (.slice A n c) none (some (.int .i64 (i : Int))) none).run Try.prog w = .ok (.slice A i c) w) ∧ (∀ w, (Instr.sliceAt 23 (.slice A n c) (some (.int .i64 (i : Int))) none none).run Try.prog w = .ok (.slice A' (n - i) (c - i)) w) ∧ ∀ (w : World) (B : Nat) (cs : List Pag.Ce), CeRd w B A n cs → CeRd w B A' (n - i) (cs.drop i) := by
  have ht : Try.prog.underlying 23 = some (.slice (Try.prog.elem 23)) := by kernel_rfl
  have hs : ∀ w, (sizeOf (Try.prog.elem 23)).run Try.prog w = .ok 2 w := fun w => by kernel_rfl
  rcases h with ⟨rfl, rfl, rfl⟩ | ⟨g, rfl⟩
  · obtain rfl : i = 0 := by omega
    refine ⟨none, fun w => ?_, fun w => ?_, fun w B cs h => ?_⟩
    · rw [run_sliceAt_slice (P := Try.prog) w _ _ _ _ _ ht, run_slice_h (P := Try.prog) w _ _ _ _ ht _ _ (by omega) (by omega), hs]
      simp only [Result.andThen, sliced, Option.map_none, Nat.sub_zero, Int.toNat_natCast]
      rfl
    · rw [run_sliceAt_slice (P := Try.prog) w _ _ _ _ _ ht, run_slice_l (P := Try.prog) w _ _ _ _ ht _ _ (by omega) (by omega), hs]
      simp only [Result.andThen, sliced, Option.map_none, Nat.sub_zero, Int.toNat_natCast]
      rfl
    · rw [List.drop_zero]
      exact h
  · refine ⟨if c = i then some ⟨g, 0, none⟩ else some ⟨g, i * 2, none⟩, fun w => run_cellsTo w g n c i (by omega), fun w => ?_, fun w B cs h => ?_⟩
    · rw [run_sliceAt_slice (P := Try.prog) w _ _ _ _ _ ht, run_slice_l (P := Try.prog) w _ _ _ _ ht _ _ (by omega) (by omega), hs]
      simp only [Result.andThen, sliced, Option.map_some, addr_add, Int.toNat_natCast, Nat.zero_add]
    · split
      · have e : n = i := by omega
        subst e
        rw [Nat.sub_self, List.drop_of_length_le (by rw [h.1]; exact Nat.le_refl _)]
        exact CeRd.nil _ _ _
      · have := h.drop hi
        rwa [Nat.zero_add] at this
set_option linter.unusedVariables false in
set_option maxRecDepth 100000 in
set_option maxHeartbeats 1600000 in
set_option maxHeartbeats 8000000 in
theorem rPut_any (A A1 A2 : Option Addr) (n c n1 c1 n2 c2 : Nat) (l key val : List UInt8) (w : World) (hl : Rb w w.heap.size A n l) (hn : n ≤ 140737488355328) (hc : n ≤ c) (hc2 : c ≤ 9223372036854775807)
    (hk : Rb w w.heap.size A1 n1 key) (hk1 : n1 ≤ 140737488355328) (hk2 : n1 ≤ c1) (hk3 : c1 ≤ 9223372036854775807) (hv : Rb w w.heap.size A2 n2 val) (hv1 : n2 ≤ 140737488355328) (hv2 : n2 ≤ c2) (hv3 : c2 ≤ 9223372036854775807) :
    Calls Try.prog 27 #[.slice A n c, .slice A1 n1 c1, .slice A2 n2 c2] w (BE w (Pag.putB l key val)) := by
  have HL := hide hl
  have HK := hide hk
  have hkl := hk.len
  have hvl := hv.len
  have BK : Hid (Bd w w.heap.size (.slice A1 n1 c1) key) := by rw [← hkl] at hk hk1 hk2 ⊢; exact ⟨A1, c1, rfl, hk, hk1, hk2, hk3⟩
  have BV : Hid (Bd w w.heap.size (.slice A2 n2 c2) val) := by rw [← hvl] at hv hv1 hv2 ⊢; exact ⟨A2, c2, rfl, hv, hv1, hv2, hv3⟩
  have HM1 : Hid (mayN n1 n2 = Pag.mayB key val) := by show mayN n1 n2 = _; unfold mayN Pag.mayB; rw [hkl, hvl]
  clear hl hk hv hkl hvl hk1 hk2 hk3 hv1 hv2 hv3
  go_enter Try.func27, Try.ntmps27
  go_wp2_with fail
  with_reducible refine (rUnpack_any A n c l _ HL.out hn hc hc2).mono ?_
  rintro e w1 ⟨hb1, hr⟩
  have HB1 := hide hb1
  have hs1 := hb1.size
  cases hu : Pag.unpB l with
  | none =>
    rw [hu] at hr
    obtain rfl := hr
    have HP := hide (Pag.putB_none (key := key) (val := val) hu)
    clear hu hb1
    go_wp2_with fail
    go_ret2
    exact BE.err 170 HP.out (HB1.out.alloc hs1 _)
  | some p =>
    rw [hu] at hr
    obtain ⟨v, rfl, Av, cv, rfl, hown⟩ := hr
    obtain ⟨hr1, hr2, hr3⟩ := Pag.unpB_right hu
    have HU := hide hu
    have HRr := hide hr1
    have HRt := hide hr2
    obtain ⟨m, hm⟩ : ∃ m, m = p.cells.length := ⟨_, rfl⟩
    rw [← hm] at hown hr3 ⊢
    have HM := hide hm
    have hmc : m ≤ cv ∧ cv ≤ 9223372036854775807 := by
      obtain ⟨A', c', e', x1, x2⟩ := hown.form
      rw [← HM.out] at e' x1
      injection e' with _ _ e3
      subst e3
      exact ⟨x1, x2⟩
    obtain ⟨hmc1, hmc2⟩ := hmc
    obtain ⟨w2, hw2⟩ : ∃ w2, w2 = w1.alloc (.cells #[.int .u8 (p.kind.toNat : Int), .int .i64 p.next, .slice Av m cv] 25) := ⟨_, rfl⟩
    have hb2 : Below w1.heap.size w1 w2 := by rw [hw2]; exact (Below.refl _ _).alloc (Nat.le_refl _) _
    have HK2 : Hid (Blk w2 w1.heap.size 25 #[.int .u8 (p.kind.toNat : Int), .int .i64 p.next, .slice Av m cv]) := by rw [hw2]; exact Blk.new _ _ _
    have hs2 : w1.heap.size < w2.heap.size := by rw [hw2]; simp
    have HB2 := hide (HB1.out.trans (hb2.mono hs1))
    have HO2 := hide (hown.below hb2 hs1)
    clear hu hr1 hr2 hm hb1 hown
    go_upto_region 2 with fail
    rw [← hw2]
    clear hw2 hb2
    have k0 := HK2.out.cell 0
    have k1 := HK2.out.cell 1
    have k2 := HK2.out.cell 2
    simp at k0 k1 k2
    have HRi := hide (Pag.right_rise HRr.out)
    by_cases hk0 : p.kind = 0
    · have t0 : ((p.kind.toNat : Int) == 0) = true := by rw [hk0]; rfl
      have HP := hide (Pag.putB_arg (key := key) (val := val) HU.out (.inl hk0))
      clear hk0
      go_wp2_with fail
      go_ret2
      exact BE.err 2 HP.out HB2.out
    · have t0 : ((p.kind.toNat : Int) == 0) = false := by
        have : p.kind.toNat ≠ 0 := fun e => hk0 (UInt8.toNat_inj.1 e)
        simp
        omega
      have HK0 := hide hk0
      clear hk0
      cases hmy : Pag.mayB key val with
      | false =>
        have HP := hide (Pag.putB_arg HU.out (.inr hmy))
        have HM2 : Hid (mayN n1 n2 = false) := HM1.out.trans hmy
        clear hmy
        go_wp2_with fail
        with_reducible refine (rMay_any A1 A2 n1 c1 n2 c2 _).mono ?_
        rw [HM2.out]
        rintro e w' ⟨rfl, rfl⟩
        go_wp2_with fail
        go_ret2
        exact BE.err 2 HP.out HB2.out
      | true =>
        have hpt := Pag.putB_yes HU.out HK0.out hmy
        rw [← Pag.put_eq HRi.out] at hpt
        obtain ⟨Lw, hLw⟩ : ∃ Lw, Lw = Pag.withN p.cells key := ⟨_, rfl⟩
        rw [← hLw] at hpt
        have HP := hide hpt
        have HM2 : Hid (mayN n1 n2 = true) := HM1.out.trans hmy
        clear hmy hpt
        go_wp2_with fail
        with_reducible refine (rMay_any A1 A2 n1 c1 n2 c2 _).mono ?_
        rw [HM2.out]
        rintro e w' ⟨rfl, rfl⟩
        go_wp2_with fail
        with_reducible refine (rWith_any Av A1 m cv n1 c1 p.cells key _ (by exact HO2.out.rd HM.out (by omega)) (by exact (HK.out.below HB2.out (Nat.le_refl _)).more (by omega)) (by omega)).mono ?_
        rintro e w3 ⟨v3, rfl, ho3, hb3⟩
        have hwl := Pag.with_len p.cells key
        rw [← hLw] at ho3 hwl ⊢
        obtain ⟨A3, c3, rfl, hc3a, hc3b⟩ := ho3.form
        obtain ⟨hs, hhs⟩ : ∃ hs, hs = decide (Lw.length < m) := ⟨_, rfl⟩
        rw [← hhs]
        obtain ⟨q, hq⟩ : ∃ q, q = Lw.length := ⟨_, rfl⟩
        have HQ := hide hq
        rw [← hq] at ho3 hc3a hwl ⊢
        rw [← HM.out] at hwl
        have hs3 := hb3.size
        have HB3 := hide (HB2.out.trans (hb3.mono (by omega)))
        have HK3 := hide (HK2.out.below hb3 hs2)
        have h2 := ho3.two
        have HO3 := hide ho3
        clear hhs hLw hq ho3 hb3 k0 k1 k2
        go_wp2_with fail
        go_loopg [12] q (fun gg a wr => ∃ j : Nat, j ≤ q ∧ gg = q - j ∧ a = .int .i64 (j : Nat) ∧ Hid (∀ i f, i < j → Lw[i]? = some f → Pag.geB key f = false) ∧ Below w3.heap.size w3 wr)
        case atStart => exact ⟨0, Nat.zero_le _, rfl, rfl, fun i f hi => absurd hi (by omega), Below.refl _ _⟩
        case round =>
          obtain ⟨j, hj, rfl, rfl, H1, hbel⟩ := hrel
          obtain ⟨w5, hw5⟩ : ∃ w5, w5 = wr := ⟨_, rfl⟩
          subst hw5
          have hs5 := hbel.size
          have HB5 := hide (HB3.out.trans (hbel.mono (by omega)))
          have HK5 := hide (HK3.out.below hbel (by omega))
          have HO5 := hide (HO3.out.below hbel (by omega))
          have HBl := hide hbel
          clear hbel
          by_cases hlt : j < q
          · obtain ⟨f, hf⟩ : ∃ f, Lw[j]? = some f := ⟨Lw[j]'(by rw [← HQ.out]; exact hlt), List.getElem?_eq_getElem (by rw [← HQ.out]; exact hlt)⟩
            obtain ⟨g, b1, b2, rfl, hgl, d1, d2, o1, o2⟩ := HO5.out.at hf
            obtain ⟨Ak, ck, rfl, r1, x1, x2, x3⟩ := o1.bd (by omega)
            have R1 := hide r1
            have HF := hide hf
            have d1' : w5.cell? ⟨g, 0 + j * 2, none⟩ = some (.slice Ak f.1.length ck) := by rw [Nat.zero_add]; exact d1
            obtain ⟨z, hz⟩ : ∃ z, z = cmpB f.1 key := ⟨_, rfl⟩
            have HZ := hide hz
            clear hf o1 o2 r1 d2 hz
            go_wp2_with fail
            with_reducible refine (rCmp_any _ _ _ _ _ _ f.1 key _ _ _ R1.out (by exact HK.out.below HB5.out (Nat.le_refl _)) (by unfold maxLen; omega)).mono ?_
            rw [← HZ.out]
            rintro e w' ⟨rfl, q5, hq5⟩
            have HBl' : Hid (Below w3.heap.size w3 w') := by rw [hq5]; exact below_drewN' HBl.out q5
            clear d1 d1' HK5 HO5 HB5 R1 HBl
            subst hq5
            by_cases hz0 : z < 0
            · have H1' : Hid (∀ i f, i < j + 1 → Lw[i]? = some f → Pag.geB key f = false) := fun i f' hi hc => by
                rcases Nat.lt_or_ge i j with h | h
                · exact H1.out i f' h hc
                · obtain rfl : i = j := by omega
                  rw [HF.out] at hc
                  obtain rfl := Option.some.inj hc
                  unfold Pag.geB
                  rw [← HZ.out]
                  simp
                  omega
              go_wp2_with fail
              go_roundg (q - (j + 1))
              case measure => omega
              case rel => exact ⟨j + 1, by omega, rfl, by go_num, H1', HBl'.out⟩
            · have HR : Hid (Pag.findN Lw key = j) := Pag.findIdx_of Lw j (by rw [← HQ.out]; exact hj) (fun i c hi hc => H1.out i c hi hc) (fun c hc => by
                rw [HF.out] at hc
                obtain rfl := Option.some.inj hc
                unfold Pag.geB
                rw [← HZ.out]
                simp
                omega)
              obtain ⟨w5, hw5⟩ : ∃ w5', w5' = w5.drewN q5 := ⟨_, rfl⟩
              rw [← hw5] at HBl' ⊢
              clear hw5
              have hs5 := HBl'.out.size
              have HB5 := hide (HB3.out.trans (HBl'.out.mono (by omega)))
              have HK5 := hide (HK3.out.below HBl'.out (by omega))
              have HO5 := hide (HO3.out.below HBl'.out (by omega))
              have HR5 := hide (HO5.out.rd HQ.out (by omega))
              obtain ⟨A', hs1, hs2, hcut⟩ := cells_cut (some ⟨g, 0, none⟩) q c3 j (.inr ⟨g, rfl⟩) (by omega) (by omega)
              have HS2 := hide hs2
              have HCut := hide hcut
              clear hs2 hcut
              have HNil : Hid (CeOwn w5 w5.heap.size w5.heap.size (.slice none 0 0) []) := CeOwn.nil _ _ _
              obtain ⟨va, wa, hra, hoa, hba, _⟩ := run_appCs (ty := 23) w5.heap.size w5.heap.size _ [] (Lw.take j) HNil.out (some ⟨g, 0, none⟩) j c3 (HR5.out.take (by omega)) (Nat.le_refl _) (by simp; omega) (Nat.le_refl _)
              rw [List.nil_append] at hoa
              have hjl : (Lw.take j).length = j := by rw [List.length_take, ← HQ.out]; omega
              have HJl := hide hjl
              obtain ⟨Aa, ca, rfl, hca1, hca2⟩ := hoa.form
              rw [hjl] at hoa hca1 hra
              have HOa := hide hoa
              have HBa := hide hba
              have hsa := hba.size
              clear hoa hba hjl
              have HRa := hide hra
              clear hra
              go_upto_region 12 with (at_builtin; refine wpList_run rfl (exec_append (.tmp 54) (.tmp 57) rfl rfl rfl HRa.out) ?_)
              clear hs1
              obtain ⟨w7, hw7⟩ : ∃ w7, w7 = wa.alloc (.cells #[.slice A1 n1 c1, .slice A2 n2 c2] 41) := ⟨_, rfl⟩
              have hb7 : Below wa.heap.size wa w7 := by rw [hw7]; exact (Below.refl _ _).alloc (Nat.le_refl _) _
              have HV7 : Hid (Blk w7 wa.heap.size 41 #[.slice A1 n1 c1, .slice A2 n2 c2]) := by rw [hw7]; exact Blk.new _ _ _
              have hs7 := hb7.size
              have HB57 := hide (HBa.out.trans (hb7.mono hsa))
              have HB7 := hide (HB5.out.trans (HB57.out.mono (by omega)))
              have HO7 := hide (HOa.out.below hb7 hsa)
              have BK7 : Hid (Bo w7 w5.heap.size w5.heap.size (.slice A1 n1 c1) key) := .inr ⟨(BK.out.keep fun _ hp => HB7.out.cell hp).more (by omega), Nat.le_refl _⟩
              have BV7 : Hid (Bo w7 w5.heap.size w5.heap.size (.slice A2 n2 c2) val) := .inr ⟨(BV.out.keep fun _ hp => HB7.out.cell hp).more (by omega), Nat.le_refl _⟩
              have HM7 : Hid (((Lw.take j).length + 1) * 48 ≤ 140737488355328) := by show _ ≤ _; rw [HJl.out]; omega
              clear hb7
              go_upto_region 13 with (at_builtin; rw [← hw7]; clear hw7; refine wpList_appCg rfl (.tmp 59) (.tmp 63) rfl w5.heap.size w5.heap.size _ (Lw.take j) rfl HO7.out wa.heap.size 1 (key, val) _ _ BK7.out BV7.out rfl HV7.out HM7.out (by omega) ?_; intro v8 w8 ho8 hb8 _; have HO8 := hide ho8; have HB8 := hide (HB57.out.trans hb8); clear ho8 hb8)
              have hml : (Lw.take j ++ [(key, val)]).length = j + 1 := by rw [List.length_append, HJl.out]; rfl
              have HMl := hide hml
              obtain ⟨A8, c8, rfl, hc8a, hc8b⟩ := HO8.out.form
              rw [hml] at HO8 hc8a ⊢
              have HR8 : Hid (CeRd w8 w5.heap.size A' (q - j) (Lw.drop j)) := HCut.out _ _ _ (HR5.out.below HB8.out (Nat.le_refl _))
              obtain ⟨v9, w9, hr9, ho9, hb9, _⟩ := run_appCs (ty := 23) w5.heap.size w5.heap.size _ (Lw.take j ++ [(key, val)]) (Lw.drop j) HO8.out A' (q - j) (c3 - j) HR8.out (Nat.le_refl _) (by rw [hml]; omega) HB8.out.size
              have hl9 : (Lw.take j ++ [(key, val)] ++ Lw.drop j).length = q + 1 := by rw [List.length_append, hml, List.length_drop, ← HQ.out]; omega
              have HL9 := hide hl9
              obtain ⟨A9, c9, rfl, hc9a, hc9b⟩ := ho9.form
              rw [hl9] at ho9 hc9a hr9
              have HR9 := hide hr9
              have HB9 := hide (HB8.out.trans hb9)
              have hs9 := HB9.out.size
              have HK9 := hide (HK5.out.below HB9.out (by omega))
              have HBw9 := hide (HB5.out.trans (HB9.out.mono (by omega)))
              obtain ⟨w10, hw10⟩ : ∃ w10, w10 = w9.setCell ⟨w1.heap.size, 2, none⟩ (.slice A9 (q + 1) c9) := ⟨_, rfl⟩
              have HK10 : Hid (Blk w10 w1.heap.size 25 #[.int .u8 (p.kind.toNat : Int), .int .i64 p.next, .slice A9 (q + 1) c9]) := by rw [hw10]; exact HK9.out.put 2 _
              have HB10 : Hid (Below w.heap.size w w10) := by rw [hw10]; exact HBw9.out.setCell hs1 _
              have HO10 : Hid (CeOwn w10 w5.heap.size w5.heap.size (.slice A9 (q + 1) c9) (Lw.take j ++ [(key, val)] ++ Lw.drop j)) := by rw [hw10]; exact ho9.box2 HK9.out (i := 2) rfl _
              have hs10 : w9.heap.size ≤ w10.heap.size := by rw [hw10]; simp
              clear hml hr9 ho9 hb9 hl9
              have k0 := HK9.out.cell 0
              have k1 := HK9.out.cell 1
              have k2 := HK9.out.cell 2
              simp at k0 k1 k2
              have q0 := HK9.out.frozen 2
              have hs2 := HS2.out
              go_upto_region 14 with (at_builtin; refine wpList_run rfl (exec_append (.tmp 65) (.tmp 68) rfl rfl rfl HR9.out) ?_)
              rw [← hw10]
              clear hw10 k0 k1 k2 q0 hs2
              have k0 := HK10.out.cell 0
              have k1 := HK10.out.cell 1
              have k2 := HK10.out.cell 2
              simp at k0 k1 k2
              go_wp2_with fail
              have cp := rPack_any p.kind p.next A9 (q + 1) c9 (Lw.take j ++ [(key, val)] ++ Lw.drop j) _ (by exact HO10.out.rd HL9.out.symm (by omega)) (by omega)
              have hPt := HP.out
              rw [HR.out] at hPt
              rw [← hPt] at cp
              clear hPt
              with_reducible refine cp.mono ?_
              clear cp
              rintro e w11 hbe
              obtain ⟨v11, rfl, h1, h2'⟩ := hbe
              have HBE : Hid (BE w (Pag.putB l key val) (.returned (.tuple #[v11, .int .i64 ((Pag.putB l key val).1 : Int)])) w11) := BE.base ⟨v11, rfl, h1, h2'⟩ (show w.heap.size ≤ w10.heap.size by omega) HB10.out
              clear h1 h2' k0 k1 k2
              go_wp2_with fail
              go_ret2
              exact HBE.out
          · have HR : Hid (Pag.findN Lw key = j) := Pag.findIdx_of Lw j (by rw [← HQ.out]; exact hj) (fun i c hi hc => H1.out i c hi hc) (fun c hc => by
              rw [List.getElem?_eq_none (by rw [← HQ.out]; omega)] at hc
              cases hc)
            have hltI : ¬ ((j : Int) < (q : Int)) := by omega
            have h2' : (A3 = none ∧ q = 0 ∧ c3 = 0) ∨ ∃ g, A3 = some ⟨g, 0, none⟩ := h2.imp id fun ⟨g, h, _⟩ => ⟨g, h⟩
            have HR5 := hide (HO5.out.rd HQ.out (by omega))
            obtain ⟨A', hs1, hs2, hcut⟩ := cells_cut A3 q c3 j h2' (by omega) (by omega)
            have HS2 := hide hs2
            have HCut := hide hcut
            clear hs2 hcut
            have HNil : Hid (CeOwn w5 w5.heap.size w5.heap.size (.slice none 0 0) []) := CeOwn.nil _ _ _
            obtain ⟨va, wa, hra, hoa, hba, _⟩ := run_appCs (ty := 23) w5.heap.size w5.heap.size _ [] (Lw.take j) HNil.out A3 j c3 (HR5.out.take (by omega)) (Nat.le_refl _) (by simp; omega) (Nat.le_refl _)
            rw [List.nil_append] at hoa
            have hjl : (Lw.take j).length = j := by rw [List.length_take, ← HQ.out]; omega
            have HJl := hide hjl
            obtain ⟨Aa, ca, rfl, hca1, hca2⟩ := hoa.form
            rw [hjl] at hoa hca1 hra
            have HOa := hide hoa
            have HBa := hide hba
            have hsa := hba.size
            clear hoa hba hjl
            have HRa := hide hra
            clear hra
            go_upto_region 12 with (at_builtin; refine wpList_run rfl (exec_append (.tmp 54) (.tmp 57) rfl rfl rfl HRa.out) ?_)
            clear hs1
            obtain ⟨w7, hw7⟩ : ∃ w7, w7 = wa.alloc (.cells #[.slice A1 n1 c1, .slice A2 n2 c2] 41) := ⟨_, rfl⟩
            have hb7 : Below wa.heap.size wa w7 := by rw [hw7]; exact (Below.refl _ _).alloc (Nat.le_refl _) _
            have HV7 : Hid (Blk w7 wa.heap.size 41 #[.slice A1 n1 c1, .slice A2 n2 c2]) := by rw [hw7]; exact Blk.new _ _ _
            have hs7 := hb7.size
            have HB57 := hide (HBa.out.trans (hb7.mono hsa))
            have HB7 := hide (HB5.out.trans (HB57.out.mono (by omega)))
            have HO7 := hide (HOa.out.below hb7 hsa)
            have BK7 : Hid (Bo w7 w5.heap.size w5.heap.size (.slice A1 n1 c1) key) := .inr ⟨(BK.out.keep fun _ hp => HB7.out.cell hp).more (by omega), Nat.le_refl _⟩
            have BV7 : Hid (Bo w7 w5.heap.size w5.heap.size (.slice A2 n2 c2) val) := .inr ⟨(BV.out.keep fun _ hp => HB7.out.cell hp).more (by omega), Nat.le_refl _⟩
            have HM7 : Hid (((Lw.take j).length + 1) * 48 ≤ 140737488355328) := by show _ ≤ _; rw [HJl.out]; omega
            clear hb7
            go_upto_region 13 with (at_builtin; rw [← hw7]; clear hw7; refine wpList_appCg rfl (.tmp 59) (.tmp 63) rfl w5.heap.size w5.heap.size _ (Lw.take j) rfl HO7.out wa.heap.size 1 (key, val) _ _ BK7.out BV7.out rfl HV7.out HM7.out (by omega) ?_; intro v8 w8 ho8 hb8 _; have HO8 := hide ho8; have HB8 := hide (HB57.out.trans hb8); clear ho8 hb8)
            have hml : (Lw.take j ++ [(key, val)]).length = j + 1 := by rw [List.length_append, HJl.out]; rfl
            have HMl := hide hml
            obtain ⟨A8, c8, rfl, hc8a, hc8b⟩ := HO8.out.form
            rw [hml] at HO8 hc8a ⊢
            have HR8 : Hid (CeRd w8 w5.heap.size A' (q - j) (Lw.drop j)) := HCut.out _ _ _ (HR5.out.below HB8.out (Nat.le_refl _))
            obtain ⟨v9, w9, hr9, ho9, hb9, _⟩ := run_appCs (ty := 23) w5.heap.size w5.heap.size _ (Lw.take j ++ [(key, val)]) (Lw.drop j) HO8.out A' (q - j) (c3 - j) HR8.out (Nat.le_refl _) (by rw [hml]; omega) HB8.out.size
            have hl9 : (Lw.take j ++ [(key, val)] ++ Lw.drop j).length = q + 1 := by rw [List.length_append, hml, List.length_drop, ← HQ.out]; omega
            have HL9 := hide hl9
            obtain ⟨A9, c9, rfl, hc9a, hc9b⟩ := ho9.form
            rw [hl9] at ho9 hc9a hr9
            have HR9 := hide hr9
            have HB9 := hide (HB8.out.trans hb9)
            have hs9 := HB9.out.size
            have HK9 := hide (HK5.out.below HB9.out (by omega))
            have HBw9 := hide (HB5.out.trans (HB9.out.mono (by omega)))
            obtain ⟨w10, hw10⟩ : ∃ w10, w10 = w9.setCell ⟨w1.heap.size, 2, none⟩ (.slice A9 (q + 1) c9) := ⟨_, rfl⟩
            have HK10 : Hid (Blk w10 w1.heap.size 25 #[.int .u8 (p.kind.toNat : Int), .int .i64 p.next, .slice A9 (q + 1) c9]) := by rw [hw10]; exact HK9.out.put 2 _
            have HB10 : Hid (Below w.heap.size w w10) := by rw [hw10]; exact HBw9.out.setCell hs1 _
            have HO10 : Hid (CeOwn w10 w5.heap.size w5.heap.size (.slice A9 (q + 1) c9) (Lw.take j ++ [(key, val)] ++ Lw.drop j)) := by rw [hw10]; exact ho9.box2 HK9.out (i := 2) rfl _
            have hs10 : w9.heap.size ≤ w10.heap.size := by rw [hw10]; simp
            clear hml hr9 ho9 hb9 hl9
            have k0 := HK9.out.cell 0
            have k1 := HK9.out.cell 1
            have k2 := HK9.out.cell 2
            simp at k0 k1 k2
            have q0 := HK9.out.frozen 2
            have hs2 := HS2.out
            go_upto_region 14 with (at_builtin; refine wpList_run rfl (exec_append (.tmp 65) (.tmp 68) rfl rfl rfl HR9.out) ?_)
            rw [← hw10]
            clear hw10 k0 k1 k2 q0 hs2
            have k0 := HK10.out.cell 0
            have k1 := HK10.out.cell 1
            have k2 := HK10.out.cell 2
            simp at k0 k1 k2
            go_wp2_with fail
            have cp := rPack_any p.kind p.next A9 (q + 1) c9 (Lw.take j ++ [(key, val)] ++ Lw.drop j) _ (by exact HO10.out.rd HL9.out.symm (by omega)) (by omega)
            have hPt := HP.out
            rw [HR.out] at hPt
            rw [← hPt] at cp
            clear hPt
            with_reducible refine cp.mono ?_
            clear cp
            rintro e w11 hbe
            obtain ⟨v11, rfl, h1, h2'⟩ := hbe
            have HBE : Hid (BE w (Pag.putB l key val) (.returned (.tuple #[v11, .int .i64 ((Pag.putB l key val).1 : Int)])) w11) := BE.base ⟨v11, rfl, h1, h2'⟩ (show w.heap.size ≤ w10.heap.size by omega) HB10.out
            clear h1 h2' k0 k1 k2
            go_wp2_with fail
            go_ret2
            exact HBE.out
end Go.Proofs.Ytpoilndlfbmhgaa
