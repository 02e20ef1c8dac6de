/-
  The walk of chanceryref07.Split: it is Pag.splitB. Conditions: the bytes read as a list.
-/
import Derived.Test.YtpoilndlfbmhgaaSplit
import Derived.Test.YtpoilndlfbmhgaaRefUnp
import Derived.Test.YtpoilndlfbmhgaaFlow
namespace Go.Proofs.Ytpoilndlfbmhgaa
open Go.RowKit

theorem rTk {a : Nat} {cs : List Pag.Ce} (h : a = 8 + Pag.taken cs) (kd : UInt8) (nx : Int) (A : Option Addr) (n c : Nat) (cs' : List Pag.Ce) (w : World) (hl : CeRd w w.heap.size A n cs') (hm : ∀ c ∈ cs', Pag.mayB c.1 c.2 = true) (hn : n ≤ 4000000000000) (e : cs' = cs := by rfl) :
    Calls Try.prog 29 #[.agg #[.int .u8 (kd.toNat : Int), .int .i64 nx, .slice A n c]] w fun e w' => e = .returned (.int .i64 (a : Int)) ∧ Below w.heap.size w w' := by
  subst e
  rw [h]
  exact rTaken_any kd nx A n c cs' w hl hm hn
set_option linter.unusedVariables false in
set_option maxRecDepth 100000 in
set_option maxHeartbeats 1600000 in
theorem rSplit_any (A : Option Addr) (n c : Nat) (l : List UInt8) (w : World) (hl : Rb w w.heap.size A n l) (hn : n ≤ 140737488355328) (hc : n ≤ c) (hc2 : c ≤ 9223372036854775807) :
    Calls Try.prog 30 #[.slice A n c] w (SpR w (Pag.splitB l)) := by
  have HL := hide hl
  clear hl
  go_enter Try.func30, Try.ntmps30
  go_wp2_with fail
  with_reducible refine (rUnpack_any A n c l _ HL.out hn hc hc2).mono ?_
  rintro e w1 ⟨hb1, hr⟩
  have HB1 := hide hb1
  have hs1 := hb1.size
  cases hu : Pag.unpB l with
  | none =>
    rw [hu] at hr
    obtain rfl := hr
    have HP := hide (Pag.splitB_none hu)
    clear hu hb1
    go_wp2_with fail
    refine bodyPost_ret (v := .tuple #[.slice none 0 0, .slice none 0 0, .slice none 0 0, .int .i64 170]) (by simp [results, Try.results30, go_sem]) rfl (SpR.no HP.out (HB1.out.alloc hs1 _))
  | some p =>
    rw [hu] at hr
    obtain ⟨v, rfl, Av, cv, rfl, hown⟩ := hr
    obtain ⟨hr1, hr2, hr3⟩ := Pag.unpB_right hu
    have HU := hide hu
    have HRr := hide hr1
    have HRt := hide hr2
    obtain ⟨m, hm⟩ : ∃ m, m = p.cells.length := ⟨_, rfl⟩
    rw [← hm] at hown hr3 ⊢
    have HM := hide hm
    obtain ⟨w2, hw2⟩ : ∃ w2, w2 = w1.alloc (.cells #[.int .u8 (p.kind.toNat : Int), .int .i64 p.next, .slice Av m cv] 25) := ⟨_, rfl⟩
    have hb2 : Below w1.heap.size w1 w2 := by rw [hw2]; exact (Below.refl _ _).alloc (Nat.le_refl _) _
    have HK2 : Hid (Blk w2 w1.heap.size 25 #[.int .u8 (p.kind.toNat : Int), .int .i64 p.next, .slice Av m cv]) := by rw [hw2]; exact Blk.new _ _ _
    have hs2 : w1.heap.size < w2.heap.size := by rw [hw2]; simp
    have HB2 := hide (HB1.out.trans (hb2.mono hs1))
    have HO2 := hide (hown.below hb2 hs1)
    clear hu hr1 hr2 hm hb1 hown
    go_upto_region 2 with fail
    rw [← hw2]
    clear hw2 hb2
    have k0 := HK2.out.cell 0
    have k1 := HK2.out.cell 1
    have k2 := HK2.out.cell 2
    simp at k0 k1 k2
    by_cases h2 : m < 2
    · have HP := hide (Pag.splitB_few HU.out (by rw [← HM.out]; exact h2))
      go_wp2_with fail
      refine bodyPost_ret (v := .tuple #[.slice none 0 0, .slice none 0 0, .slice none 0 0, .int .i64 2]) (by simp [results, Try.results30, go_sem]) rfl (SpR.no HP.out HB2.out)
    · have HMay := hide (Pag.right_may HRr.out)
      obtain ⟨g, e1, e2, rfl, hgl2, d1, _, _, _⟩ := HO2.out.at (i := 0) (List.getElem?_eq_getElem (by rw [← HM.out]; omega))
      have hmc : m ≤ cv ∧ cv ≤ 9223372036854775807 := by
        obtain ⟨A', c', e', x1, x2⟩ := HO2.out.form
        rw [← HM.out] at e' x1
        injection e' with _ _ e3
        subst e3
        exact ⟨x1, x2⟩
      obtain ⟨hmc1, hmc2⟩ := hmc
      obtain ⟨ty, hty⟩ : ∃ ty, ty = Pag.taken p.cells := ⟨_, rfl⟩
      have HTy := hide hty
      obtain ⟨tb, htb⟩ : ∃ tb, tb = 8 + ty := ⟨_, rfl⟩
      have HTb : Hid (tb = 8 + Pag.taken p.cells) := by show _ = _; rw [htb, hty]
      have htb2 : ty ≤ 4072 := by rw [hty]; exact HRt.out
      clear d1 hty
      go_wp2_with fail
      have HB3 := HB2
      have HK3 := HK2
      have HO3 := HO2
      go_loopg [8] (m - 1) (fun gg a wr => ∃ j : Nat, 1 ≤ j ∧ j ≤ m - 1 ∧ gg = m - j ∧ a = .int .i64 (j : Nat) ∧ Hid (Pag.splitG p.cells (m - j) j = Pag.splitN p.cells) ∧ Below w2.heap.size w2 wr)
      case atStart => exact ⟨1, by omega, by omega, rfl, rfl, by show _ = _; rw [HM.out]; rfl, Below.refl _ _⟩
      case round =>
        obtain ⟨j, hj1, hj2, rfl, rfl, HG, hbel⟩ := hrel
        obtain ⟨w5, hw5⟩ : ∃ w5, w5 = wr := ⟨_, rfl⟩
        subst hw5
        have hs5 := hbel.size
        have HB5 := hide (HB3.out.trans (hbel.mono (by omega)))
        have HK5 := hide (HK3.out.below hbel (by omega))
        have HO5 := hide (HO3.out.below hbel (by omega))
        have HBl := hide hbel
        have hbx : w1.heap.size < w5.heap.size := by omega
        have hgl : g < w5.heap.size := by omega
        clear k0 k1 k2
        have k0 := HK5.out.cell 0
        have k1 := HK5.out.cell 1
        have k2 := HK5.out.cell 2
        simp at k0 k1 k2
        clear hbel
        have hS1 := fun w' => run_cellsTo w' g m cv j (by omega)
        have HSl1 := hide hS1
        clear hS1
        by_cases hlt : j < m - 1
        · have HCt := hide ((HO5.out.rd HM.out (by omega)).take (m := j) (by omega))
          have HCf := hide (HO5.out.rd HM.out (by omega))
          obtain ⟨tx, htx⟩ : ∃ tx, tx = Pag.taken (p.cells.take j) := ⟨_, rfl⟩
          have HTx := hide htx
          obtain ⟨ta, hta⟩ : ∃ ta, ta = 8 + tx := ⟨_, rfl⟩
          have HTa : Hid (ta = 8 + Pag.taken (p.cells.take j)) := by show _ = _; rw [hta, htx]
          have hta2 : tx ≤ 4072 := by rw [htx]; exact Nat.le_trans (Pag.taken_parts p.cells j).1 HRt.out
          have t1 : decide ((j : Int) < (m : Int) - 1) = true := by simp; omega
          clear htx
          go_upto_region 7 with fail
          by_cases h3 : 2 * tx < ty
          · have HG2 : Hid (Pag.splitG p.cells (m - (j + 1)) (j + 1) = Pag.splitN p.cells) := by
              show _ = _
              have := Pag.splitG_step (cs := p.cells) (n := j) (by rw [← HM.out]; exact hlt) (by have := HTx.out; have := HTy.out; omega)
              rw [← HM.out] at this
              rw [← this]
              exact HG.out
            have t3 : decide (2 * (tx : Int) < (ty : Int)) = true := by simp; omega
            refine wp_region_flow (Up w5) 19 (by kernel_rfl) (by kernel_rfl) (Up.start _) ?_
            simp only [List.take_succ_cons, List.take_zero, List.drop_succ_cons, List.drop_zero]
            refine wpFlow_read ?_ rfl (fun w' hS => ?_) ?_
            rotate_left
            · go_simp
              rfl
            go_frame
            refine wpFlow_read ?_ rfl (fun w' hS => ?_) ?_
            rotate_left
            · go_simp
              rfl
            go_frame
            refine wpFlow_read ?_ rfl (fun w' hS => ?_) ?_
            rotate_left
            · have k0' := (hS.cell (p := ⟨w1.heap.size, 0, none⟩) hbx).trans k0
              have k1' := (hS.cell (p := ⟨w1.heap.size, 1, none⟩) hbx).trans k1
              have k2' := (hS.cell (p := ⟨w1.heap.size, 2, none⟩) hbx).trans k2
              go_simp
              rfl
            go_frame
            refine wpFlow_read ?_ rfl (fun w' hS => ?_) ?_
            rotate_left
            · go_simp
              rfl
            go_frame
            refine wpFlow_read ?_ rfl (fun w' hS => ?_) ?_
            rotate_left
            · have s4 : IntKind.i64.wrap ((m : Int) - 1) = (m : Int) - 1 := IntWalk.i64_in _ (by omega)
              go_simp
              rfl
            go_frame
            refine wpFlow_read ?_ rfl (fun w' hS => ?_) ?_
            rotate_left
            · have t1' := t1
              go_simp
              rfl
            go_frame
            refine wpFlow_read ?_ rfl (fun w' hS => ?_) ?_
            rotate_left
            · go_simp
              rfl
            go_frame
            refine wpFlow_read ?_ rfl (fun w' hS => ?_) ?_
            rotate_left
            · go_simp
              rfl
            go_frame
            refine wpFlow_read ?_ rfl (fun w' hS => ?_) ?_
            rotate_left
            · have k0' := (hS.cell (p := ⟨w1.heap.size, 0, none⟩) hbx).trans k0
              have k1' := (hS.cell (p := ⟨w1.heap.size, 1, none⟩) hbx).trans k1
              have k2' := (hS.cell (p := ⟨w1.heap.size, 2, none⟩) hbx).trans k2
              go_simp
              rfl
            go_frame
            refine wpFlow_read ?_ rfl (fun w' hS => ?_) ?_
            rotate_left
            · go_simp
              rfl
            go_frame
            refine wpFlow_read ?_ rfl (fun w' hS => ?_) ?_
            rotate_left
            · have s1 := HSl1.out w'
              go_simp
              rfl
            go_frame
            refine wpFlow_read ?_ rfl (fun w' hS => ?_) ?_
            rotate_left
            · go_simp
              rfl
            go_frame
            refine wpFlow_call _ _ _ rfl (fun w' hS => ?_) (fun w' (hS : (Up w5) w') => ((rTk HTa.out 0 0 (some ⟨g, 0, none⟩) j cv (p.cells.take j) w' (by exact (HCt.out.below hS (Nat.le_refl _)).more hS.size) (fun c hc => HMay.out c (List.mem_of_mem_take hc)) (by omega)).mono fun e w2 hp => ⟨hp.1, hS.trans (hp.2.mono hS.size)⟩)) ?_
            · go_simp
            go_frame
            refine wpFlow_read ?_ rfl (fun w' hS => ?_) ?_
            rotate_left
            · have s13 : IntKind.i64.wrap ((ta : Int) - 8) = (tx : Int) := by rw [IntWalk.i64_in _ (by omega)]; omega
              go_simp
              rfl
            go_frame
            refine wpFlow_read ?_ rfl (fun w' hS => ?_) ?_
            rotate_left
            · have s14 : IntKind.i64.wrap (2 * (tx : Int)) = 2 * (tx : Int) := IntWalk.i64_in _ (by omega)
              go_simp
              rfl
            go_frame
            refine wpFlow_read ?_ rfl (fun w' hS => ?_) ?_
            rotate_left
            · have k0' := (hS.cell (p := ⟨w1.heap.size, 0, none⟩) hbx).trans k0
              have k1' := (hS.cell (p := ⟨w1.heap.size, 1, none⟩) hbx).trans k1
              have k2' := (hS.cell (p := ⟨w1.heap.size, 2, none⟩) hbx).trans k2
              go_simp
              rfl
            go_frame
            refine wpFlow_call _ _ _ rfl (fun w' hS => ?_) (fun w' (hS : (Up w5) w') => ((rTk HTb.out p.kind p.next (some ⟨g, 0, none⟩) m cv p.cells w' (by exact (HCf.out.below hS (Nat.le_refl _)).more hS.size) HMay.out (by omega)).mono fun e w2 hp => ⟨hp.1, hS.trans (hp.2.mono hS.size)⟩)) ?_
            · go_simp
            go_frame
            refine wpFlow_read ?_ rfl (fun w' hS => ?_) ?_
            rotate_left
            · have s17 : IntKind.i64.wrap ((tb : Int) - 8) = (ty : Int) := by rw [IntWalk.i64_in _ (by omega)]; omega
              go_simp
              rfl
            go_frame
            refine wpFlow_read ?_ rfl (fun w' hS => ?_) ?_
            rotate_left
            · have t3' := t3
              go_simp
              rfl
            go_frame
            refine wpFlow_nil fun w5b hS => ?_
            have HBlb := hide (HBl.out.trans (Below.mono hS hs5))
            clear hS k0 k1 k2 HCt HCf
            go_wp2_with fail
            go_roundg (m - (j + 1))
            case measure => omega
            case rel => exact ⟨j + 1, by omega, by omega, rfl, by go_num, HG2, HBlb.out⟩
          · have HJ : Hid (Pag.splitN p.cells = j) := by
              show _ = _
              rw [← HG.out, HM.out]
              exact Pag.splitG_stop fun h => h3 (by have := h.2; have := HTx.out; have := HTy.out; omega)
            have t3 : decide (2 * (tx : Int) < (ty : Int)) = false := by simp; omega
            refine wp_region_flow (Up w5) 19 (by kernel_rfl) (by kernel_rfl) (Up.start _) ?_
            simp only [List.take_succ_cons, List.take_zero, List.drop_succ_cons, List.drop_zero]
            refine wpFlow_read ?_ rfl (fun w' hS => ?_) ?_
            rotate_left
            · go_simp
              rfl
            go_frame
            refine wpFlow_read ?_ rfl (fun w' hS => ?_) ?_
            rotate_left
            · go_simp
              rfl
            go_frame
            refine wpFlow_read ?_ rfl (fun w' hS => ?_) ?_
            rotate_left
            · have k0' := (hS.cell (p := ⟨w1.heap.size, 0, none⟩) hbx).trans k0
              have k1' := (hS.cell (p := ⟨w1.heap.size, 1, none⟩) hbx).trans k1
              have k2' := (hS.cell (p := ⟨w1.heap.size, 2, none⟩) hbx).trans k2
              go_simp
              rfl
            go_frame
            refine wpFlow_read ?_ rfl (fun w' hS => ?_) ?_
            rotate_left
            · go_simp
              rfl
            go_frame
            refine wpFlow_read ?_ rfl (fun w' hS => ?_) ?_
            rotate_left
            · have s4 : IntKind.i64.wrap ((m : Int) - 1) = (m : Int) - 1 := IntWalk.i64_in _ (by omega)
              go_simp
              rfl
            go_frame
            refine wpFlow_read ?_ rfl (fun w' hS => ?_) ?_
            rotate_left
            · have t1' := t1
              go_simp
              rfl
            go_frame
            refine wpFlow_read ?_ rfl (fun w' hS => ?_) ?_
            rotate_left
            · go_simp
              rfl
            go_frame
            refine wpFlow_read ?_ rfl (fun w' hS => ?_) ?_
            rotate_left
            · go_simp
              rfl
            go_frame
            refine wpFlow_read ?_ rfl (fun w' hS => ?_) ?_
            rotate_left
            · have k0' := (hS.cell (p := ⟨w1.heap.size, 0, none⟩) hbx).trans k0
              have k1' := (hS.cell (p := ⟨w1.heap.size, 1, none⟩) hbx).trans k1
              have k2' := (hS.cell (p := ⟨w1.heap.size, 2, none⟩) hbx).trans k2
              go_simp
              rfl
            go_frame
            refine wpFlow_read ?_ rfl (fun w' hS => ?_) ?_
            rotate_left
            · go_simp
              rfl
            go_frame
            refine wpFlow_read ?_ rfl (fun w' hS => ?_) ?_
            rotate_left
            · have s1 := HSl1.out w'
              go_simp
              rfl
            go_frame
            refine wpFlow_read ?_ rfl (fun w' hS => ?_) ?_
            rotate_left
            · go_simp
              rfl
            go_frame
            refine wpFlow_call _ _ _ rfl (fun w' hS => ?_) (fun w' (hS : (Up w5) w') => ((rTk HTa.out 0 0 (some ⟨g, 0, none⟩) j cv (p.cells.take j) w' (by exact (HCt.out.below hS (Nat.le_refl _)).more hS.size) (fun c hc => HMay.out c (List.mem_of_mem_take hc)) (by omega)).mono fun e w2 hp => ⟨hp.1, hS.trans (hp.2.mono hS.size)⟩)) ?_
            · go_simp
            go_frame
            refine wpFlow_read ?_ rfl (fun w' hS => ?_) ?_
            rotate_left
            · have s13 : IntKind.i64.wrap ((ta : Int) - 8) = (tx : Int) := by rw [IntWalk.i64_in _ (by omega)]; omega
              go_simp
              rfl
            go_frame
            refine wpFlow_read ?_ rfl (fun w' hS => ?_) ?_
            rotate_left
            · have s14 : IntKind.i64.wrap (2 * (tx : Int)) = 2 * (tx : Int) := IntWalk.i64_in _ (by omega)
              go_simp
              rfl
            go_frame
            refine wpFlow_read ?_ rfl (fun w' hS => ?_) ?_
            rotate_left
            · have k0' := (hS.cell (p := ⟨w1.heap.size, 0, none⟩) hbx).trans k0
              have k1' := (hS.cell (p := ⟨w1.heap.size, 1, none⟩) hbx).trans k1
              have k2' := (hS.cell (p := ⟨w1.heap.size, 2, none⟩) hbx).trans k2
              go_simp
              rfl
            go_frame
            refine wpFlow_call _ _ _ rfl (fun w' hS => ?_) (fun w' (hS : (Up w5) w') => ((rTk HTb.out p.kind p.next (some ⟨g, 0, none⟩) m cv p.cells w' (by exact (HCf.out.below hS (Nat.le_refl _)).more hS.size) HMay.out (by omega)).mono fun e w2 hp => ⟨hp.1, hS.trans (hp.2.mono hS.size)⟩)) ?_
            · go_simp
            go_frame
            refine wpFlow_read ?_ rfl (fun w' hS => ?_) ?_
            rotate_left
            · have s17 : IntKind.i64.wrap ((tb : Int) - 8) = (ty : Int) := by rw [IntWalk.i64_in _ (by omega)]; omega
              go_simp
              rfl
            go_frame
            refine wpFlow_read ?_ rfl (fun w' hS => ?_) ?_
            rotate_left
            · have t3' := t3
              go_simp
              rfl
            go_frame
            refine wpFlow_nil fun w5b hS => ?_
            have hs5b := hS.size
            have HB5b := hide (HB5.out.trans (Below.mono hS (by omega)))
            have HK5b := hide (HK5.out.below hS hbx)
            have HO5b := hide (HO5.out.below hS (by omega))
            clear hS k0 k1 k2 HCt HCf
            have hbx : w1.heap.size < w5b.heap.size := by omega
            have hgl : g < w5b.heap.size := by omega
            have k0 := HK5b.out.cell 0
            have k1 := HK5b.out.cell 1
            have k2 := HK5b.out.cell 2
            simp at k0 k1 k2
            have HCt := hide ((HO5b.out.rd HM.out (by omega)).take (m := j) (by omega))
            have hcd := (HO5b.out.rd HM.out (by omega)).drop (m := j) (by omega)
            rw [Nat.zero_add] at hcd
            have HCd := hide hcd
            clear hcd
            obtain ⟨xa, xb, hA, hB, la, lb⟩ := Pag.parts_pack HRr.out HRt.out (by rw [← HM.out]; omega)
            have hA' := hA
            have hB' := hB
            unfold Pag.partA at hA'
            unfold Pag.partB at hB'
            rw [HJ.out] at hA' hB'
            have HPA := hide hA'
            have HPB := hide hB'
            obtain ⟨f, hf⟩ : ∃ f, p.cells[j]? = some f := ⟨p.cells[j]'(by rw [← HM.out]; omega), List.getElem?_eq_getElem (by rw [← HM.out]; omega)⟩
            have HP := hide (Pag.splitB_yes HU.out (by rw [← HM.out]; exact h2) hA hB (by rw [HJ.out]; exact hf))
            have HF := hide hf
            have hS2 := fun w' => run_cellsFrom w' g m cv j (by omega) (by omega)
            have HSl2 := hide hS2
            clear hA hB hA' hB' hf hS2
            go_upto_region 9 with fail
            have hTs := tab_stable (l := [(7, (fun u w => w.ownsRow w5b.heap.size 5 1 (tup1 u) 4080 (xa.map B8)))]) (fun p hp => by
                simp only [List.mem_cons, List.not_mem_nil, or_false] at hp
                subst hp
                exact fun _ _ _ hu hb => own_below hu hb)
            have hSs := shp_some (l := [(7, IsPk)]) (fun p hp => by
                simp only [List.mem_cons, List.not_mem_nil, or_false] at hp
                subst hp
                exact IsPk.some)
            have HTs := hide hTs
            have HSs := hide hSs
            clear hTs hSs
            refine wp_region_toldL (tab [(7, (fun u w => w.ownsRow w5b.heap.size 5 1 (tup1 u) 4080 (xa.map B8)))]) (Up w5b) (w5b.heap.size) 13 (shp [(7, IsPk)]) (HSs.out) (HTs.out) (Up.lives _) Gro (Gro.turns (Up.lives _) (HTs.out)) (by kernel_rfl) (by kernel_rfl) (Up.start _) (Nat.le_refl _) ?_
            simp only [List.take_succ_cons, List.take_zero, List.drop_succ_cons, List.drop_zero]
            refine wpTold_read ?_ rfl rfl (fun w' hS => ?_) ?_
            rotate_left
            · go_simp
              rfl
            go_frame
            refine wpTold_read ?_ rfl rfl (fun w' hS => ?_) ?_
            rotate_left
            · have k0' := (hS.cell (p := ⟨w1.heap.size, 0, none⟩) hbx).trans k0
              have k1' := (hS.cell (p := ⟨w1.heap.size, 1, none⟩) hbx).trans k1
              have k2' := (hS.cell (p := ⟨w1.heap.size, 2, none⟩) hbx).trans k2
              go_simp
              rfl
            go_frame
            refine wpTold_read ?_ rfl rfl (fun w' hS => ?_) ?_
            rotate_left
            · go_simp
              rfl
            go_frame
            refine wpTold_read ?_ rfl rfl (fun w' hS => ?_) ?_
            rotate_left
            · have k0' := (hS.cell (p := ⟨w1.heap.size, 0, none⟩) hbx).trans k0
              have k1' := (hS.cell (p := ⟨w1.heap.size, 1, none⟩) hbx).trans k1
              have k2' := (hS.cell (p := ⟨w1.heap.size, 2, none⟩) hbx).trans k2
              go_simp
              rfl
            go_frame
            refine wpTold_read ?_ rfl rfl (fun w' hS => ?_) ?_
            rotate_left
            · go_simp
              rfl
            go_frame
            refine wpTold_read ?_ rfl rfl (fun w' hS => ?_) ?_
            rotate_left
            · have s1 := HSl1.out w'
              go_simp
              rfl
            go_frame
            refine wpTold_read ?_ rfl rfl (fun w' hS => ?_) ?_
            rotate_left
            · go_simp
              rfl
            go_frame
            refine' wpTold_call _ _ _ rfl rfl (fun w' => ?_) (fun w' hS hh hs => ?_) (fun v7 h7 => ?_)
            rotate_left 2
            · go_simp
              constructor <;> rfl
            · have cp := rPack_any p.kind 0 (some ⟨g, 0, none⟩) j cv (p.cells.take j) _ (by exact (HCt.out.below hS (Nat.le_refl _)).more hS.size) (by omega)
              refine cp.mono ?_
              rintro e w9 ⟨v, rfl, h1, h2⟩
              rw [show Pag.pack ⟨p.kind, 0, p.cells.take j⟩ = (0, xa) from HPA.out] at h1 ⊢
              simp only at h1 ⊢
              rw [show xa.length = 4080 by assumption] at h1
              obtain ⟨A, c, rfl⟩ := own_sl h1
              exact ⟨_, rfl, ⟨⟨A, c, rfl⟩, own_base h1 hh⟩, h2⟩
            obtain ⟨A7, c7, rfl⟩ := h7
            go_frame
            refine wpTold_read ?_ rfl rfl (fun w' hS => ?_) ?_
            rotate_left
            · go_simp
              rfl
            go_frame
            refine wpTold_read ?_ rfl rfl (fun w' hS => ?_) ?_
            rotate_left
            · go_simp
              rfl
            go_frame
            refine wpTold_read ?_ rfl rfl (fun w' hS => ?_) ?_
            rotate_left
            · go_simp
              rfl
            go_frame
            refine wpTold_read ?_ rfl rfl (fun w' hS => ?_) ?_
            rotate_left
            · go_simp
              rfl
            go_frame
            refine wpTold_read ?_ rfl rfl (fun w' hS => ?_) ?_
            rotate_left
            · go_simp
              rfl
            go_frame
            refine wpTold_nil fun w6 hH => ?_
            have h7 : w6.ownsRow w5b.heap.size 5 1 (.slice A7 4080 c7) 4080 (xa.map B8) := hH.told 7 _ _ rfl rfl
            have hup : Below w5b.heap.size w5b w6 := hH.s
            have hs6 := hup.size
            have HB6 := hide (HB5b.out.trans (hup.mono (by omega)))
            have HK6 := hide (HK5b.out.below hup hbx)
            have HO6 := hide (HO5b.out.below hup (by omega))
            have HCd6 := hide ((HCd.out.below hup (Nat.le_refl _)).more hs6)
            have HA6 := hide (own_base h7 (show w.heap.size ≤ w5b.heap.size by omega))
            clear hH h7 hup k0 k1 k2
            have k0 := HK6.out.cell 0
            have k1 := HK6.out.cell 1
            have k2 := HK6.out.cell 2
            simp at k0 k1 k2
            have hbx : w1.heap.size < w6.heap.size := by omega
            go_upto_region 10 with fail
            have hTs := tab_stable (l := [(9, (fun u w => w.ownsRow w6.heap.size 5 1 (tup1 u) 4080 (xb.map B8)))]) (fun p hp => by
                simp only [List.mem_cons, List.not_mem_nil, or_false] at hp
                subst hp
                exact fun _ _ _ hu hb => own_below hu hb)
            have hSs := shp_some (l := [(9, IsPk)]) (fun p hp => by
                simp only [List.mem_cons, List.not_mem_nil, or_false] at hp
                subst hp
                exact IsPk.some)
            have HTs := hide hTs
            have HSs := hide hSs
            clear hTs hSs
            refine wp_region_toldL (tab [(9, (fun u w => w.ownsRow w6.heap.size 5 1 (tup1 u) 4080 (xb.map B8)))]) (Up w6) (w6.heap.size) 15 (shp [(9, IsPk)]) (HSs.out) (HTs.out) (Up.lives _) Gro (Gro.turns (Up.lives _) (HTs.out)) (by kernel_rfl) (by kernel_rfl) (Up.start _) (Nat.le_refl _) ?_
            simp only [List.take_succ_cons, List.take_zero, List.drop_succ_cons, List.drop_zero]
            refine wpTold_read ?_ rfl rfl (fun w' hS => ?_) ?_
            rotate_left
            · go_simp
              rfl
            go_frame
            refine wpTold_read ?_ rfl rfl (fun w' hS => ?_) ?_
            rotate_left
            · have k0' := (hS.cell (p := ⟨w1.heap.size, 0, none⟩) hbx).trans k0
              have k1' := (hS.cell (p := ⟨w1.heap.size, 1, none⟩) hbx).trans k1
              have k2' := (hS.cell (p := ⟨w1.heap.size, 2, none⟩) hbx).trans k2
              go_simp
              rfl
            go_frame
            refine wpTold_read ?_ rfl rfl (fun w' hS => ?_) ?_
            rotate_left
            · go_simp
              rfl
            go_frame
            refine wpTold_read ?_ rfl rfl (fun w' hS => ?_) ?_
            rotate_left
            · have k0' := (hS.cell (p := ⟨w1.heap.size, 0, none⟩) hbx).trans k0
              have k1' := (hS.cell (p := ⟨w1.heap.size, 1, none⟩) hbx).trans k1
              have k2' := (hS.cell (p := ⟨w1.heap.size, 2, none⟩) hbx).trans k2
              go_simp
              rfl
            go_frame
            refine wpTold_read ?_ rfl rfl (fun w' hS => ?_) ?_
            rotate_left
            · go_simp
              rfl
            go_frame
            refine wpTold_read ?_ rfl rfl (fun w' hS => ?_) ?_
            rotate_left
            · have k0' := (hS.cell (p := ⟨w1.heap.size, 0, none⟩) hbx).trans k0
              have k1' := (hS.cell (p := ⟨w1.heap.size, 1, none⟩) hbx).trans k1
              have k2' := (hS.cell (p := ⟨w1.heap.size, 2, none⟩) hbx).trans k2
              go_simp
              rfl
            go_frame
            refine wpTold_read ?_ rfl rfl (fun w' hS => ?_) ?_
            rotate_left
            · go_simp
              rfl
            go_frame
            refine wpTold_read ?_ rfl rfl (fun w' hS => ?_) ?_
            rotate_left
            · have s2 := HSl2.out w'
              go_simp
              rfl
            go_frame
            refine wpTold_read ?_ rfl rfl (fun w' hS => ?_) ?_
            rotate_left
            · go_simp
              rfl
            go_frame
            refine' wpTold_call _ _ _ rfl rfl (fun w' => ?_) (fun w' hS hh hs => ?_) (fun v9 h9 => ?_)
            rotate_left 2
            · go_simp
              constructor <;> rfl
            · have cp := rPack_any p.kind p.next (some ⟨g, j * 2, none⟩) (m - j) (cv - j) (p.cells.drop j) _ (by exact (HCd6.out.below hS (Nat.le_refl _)).more hS.size) (by omega)
              refine cp.mono ?_
              rintro e w9 ⟨v, rfl, h1, h2⟩
              rw [show Pag.pack ⟨p.kind, p.next, p.cells.drop j⟩ = (0, xb) from HPB.out] at h1 ⊢
              simp only at h1 ⊢
              rw [show xb.length = 4080 by assumption] at h1
              obtain ⟨A, c, rfl⟩ := own_sl h1
              exact ⟨_, rfl, ⟨⟨A, c, rfl⟩, own_base h1 hh⟩, h2⟩
            obtain ⟨A9, c9, rfl⟩ := h9
            go_frame
            refine wpTold_read ?_ rfl rfl (fun w' hS => ?_) ?_
            rotate_left
            · go_simp
              rfl
            go_frame
            refine wpTold_read ?_ rfl rfl (fun w' hS => ?_) ?_
            rotate_left
            · go_simp
              rfl
            go_frame
            refine wpTold_read ?_ rfl rfl (fun w' hS => ?_) ?_
            rotate_left
            · go_simp
              rfl
            go_frame
            refine wpTold_read ?_ rfl rfl (fun w' hS => ?_) ?_
            rotate_left
            · go_simp
              rfl
            go_frame
            refine wpTold_read ?_ rfl rfl (fun w' hS => ?_) ?_
            rotate_left
            · go_simp
              rfl
            go_frame
            refine wpTold_nil fun w7 hH => ?_
            have h9 : w7.ownsRow w6.heap.size 5 1 (.slice A9 4080 c9) 4080 (xb.map B8) := hH.told 9 _ _ rfl rfl
            have hup : Below w6.heap.size w6 w7 := hH.s
            have hs7 := hup.size
            have HB7 := hide (HB6.out.trans (hup.mono (by omega)))
            have HK7 := hide (HK6.out.below hup hbx)
            have HO7 := hide (HO6.out.below hup (by omega))
            have HA7 := hide (own_below HA6.out hup)
            have HX7 := hide (own_base h9 (show w.heap.size ≤ w6.heap.size by omega))
            clear hH h9 hup k0 k1 k2
            have k0 := HK7.out.cell 0
            have k1 := HK7.out.cell 1
            have k2 := HK7.out.cell 2
            simp at k0 k1 k2
            have hbx : w1.heap.size < w7.heap.size := by omega
            obtain ⟨g', b1, b2, hgg, hgl, d1, d2, ho1, _⟩ := HO7.out.at HF.out
            injection hgg with hgg
            injection hgg with hgg _
            subst hgg
            have HOb := hide ho1
            clear d2 ho1
            have hjm : j < m := by omega
            go_upto_region 11 with fail
            have hTs := tab_stable (l := []) (fun p hp => by cases hp)
            have hSs := shp_some (l := []) (fun p hp => by cases hp)
            have HTs := hide hTs
            have HSs := hide hSs
            clear hTs hSs
            refine wp_region_toldL (tab []) (Up w7) (w7.heap.size) 12 (shp []) (HSs.out) (HTs.out) (Up.lives _) Gro (Gro.turns (Up.lives _) (HTs.out)) (by kernel_rfl) (by kernel_rfl) (Up.start _) (Nat.le_refl _) ?_
            simp only [List.take_succ_cons, List.take_zero, List.drop_succ_cons, List.drop_zero]
            refine wpTold_read ?_ rfl rfl (fun w' hS => ?_) ?_
            rotate_left
            · go_simp
              rfl
            go_frame
            refine wpTold_read ?_ rfl rfl (fun w' hS => ?_) ?_
            rotate_left
            · go_simp
              rfl
            go_frame
            refine wpTold_read ?_ rfl rfl (fun w' hS => ?_) ?_
            rotate_left
            · go_simp
              rfl
            go_frame
            refine wpTold_read ?_ rfl rfl (fun w' hS => ?_) ?_
            rotate_left
            · have k0' := (hS.cell (p := ⟨w1.heap.size, 0, none⟩) hbx).trans k0
              have k1' := (hS.cell (p := ⟨w1.heap.size, 1, none⟩) hbx).trans k1
              have k2' := (hS.cell (p := ⟨w1.heap.size, 2, none⟩) hbx).trans k2
              have d1' := (hS.cell (p := ⟨g, j * 2, none⟩) hgl).trans d1
              go_simp
              rfl
            go_frame
            refine wpTold_read ?_ rfl rfl (fun w' hS => ?_) ?_
            rotate_left
            · go_simp
              rfl
            go_frame
            refine wpTold_read ?_ rfl rfl (fun w' hS => ?_) ?_
            rotate_left
            · go_simp
              rfl
            go_frame
            refine wpTold_read ?_ rfl rfl (fun w' hS => ?_) ?_
            rotate_left
            · go_simp
              rfl
            go_frame
            refine wpTold_read ?_ rfl rfl (fun w' hS => ?_) ?_
            rotate_left
            · have k0' := (hS.cell (p := ⟨w1.heap.size, 0, none⟩) hbx).trans k0
              have k1' := (hS.cell (p := ⟨w1.heap.size, 1, none⟩) hbx).trans k1
              have k2' := (hS.cell (p := ⟨w1.heap.size, 2, none⟩) hbx).trans k2
              have d1' := (hS.cell (p := ⟨g, j * 2, none⟩) hgl).trans d1
              go_simp
              rfl
            go_frame
            refine wpTold_read ?_ rfl rfl (fun w' hS => ?_) ?_
            rotate_left
            · go_simp
              rfl
            go_frame
            refine wpTold_read ?_ rfl rfl (fun w' hS => ?_) ?_
            rotate_left
            · go_simp
              rfl
            go_frame
            refine wpTold_read ?_ rfl rfl (fun w' hS => ?_) ?_
            rotate_left
            · go_simp
              rfl
            go_frame
            refine wpTold_read ?_ rfl rfl (fun w' hS => ?_) ?_
            rotate_left
            · go_simp
              rfl
            go_frame
            refine wpTold_nil fun w8 hH => ?_
            have hup : Below w7.heap.size w7 w8 := hH.s
            have HB8 := hide (HB7.out.trans (hup.mono (by omega)))
            have hAA := own_below HA7.out hup
            have hXX := own_below HX7.out hup
            have HR1 : Hid (Bo w8 w.heap.size 0 (.slice A7 4080 c7) xa) := .inl ⟨by rw [la]; exact hAA, by omega⟩
            have HR2 : Hid (Bo w8 w.heap.size 0 (.slice A9 4080 c9) xb) := .inl ⟨by rw [lb]; exact hXX, by omega⟩
            have HR3 := hide (HOb.out.below hup (by omega))
            clear hH hup k0 k1 k2 hAA hXX d1
            go_wp2_with fail
            exact bodyPost_ret (v := .tuple #[.slice A7 4080 c7, .slice A9 4080 c9, b1, .int .i64 0]) (by simp [results, Try.results30, go_sem]) rfl (SpR.yes HP.out HB8.out HR1.out HR2.out HR3.out)
        · have HJ : Hid (Pag.splitN p.cells = j) := by
            show _ = _
            rw [← HG.out, HM.out]
            exact Pag.splitG_stop fun h => hlt (by rw [HM.out]; exact h.1)
          have t1 : decide ((j : Int) < (m : Int) - 1) = false := by simp; omega
          go_upto_region 7 with fail
          refine wp_region_flow (Up w5) 19 (by kernel_rfl) (by kernel_rfl) (Up.start _) ?_
          simp only [List.take_succ_cons, List.take_zero, List.drop_succ_cons, List.drop_zero]
          refine wpFlow_read ?_ rfl (fun w' hS => ?_) ?_
          rotate_left
          · go_simp
            rfl
          go_frame
          refine wpFlow_read ?_ rfl (fun w' hS => ?_) ?_
          rotate_left
          · go_simp
            rfl
          go_frame
          refine wpFlow_read ?_ rfl (fun w' hS => ?_) ?_
          rotate_left
          · have k0' := (hS.cell (p := ⟨w1.heap.size, 0, none⟩) hbx).trans k0
            have k1' := (hS.cell (p := ⟨w1.heap.size, 1, none⟩) hbx).trans k1
            have k2' := (hS.cell (p := ⟨w1.heap.size, 2, none⟩) hbx).trans k2
            go_simp
            rfl
          go_frame
          refine wpFlow_read ?_ rfl (fun w' hS => ?_) ?_
          rotate_left
          · go_simp
            rfl
          go_frame
          refine wpFlow_read ?_ rfl (fun w' hS => ?_) ?_
          rotate_left
          · have s4 : IntKind.i64.wrap ((m : Int) - 1) = (m : Int) - 1 := IntWalk.i64_in _ (by omega)
            go_simp
            rfl
          go_frame
          refine wpFlow_read ?_ rfl (fun w' hS => ?_) ?_
          rotate_left
          · have t1' := t1
            go_simp
            rfl
          go_frame
          refine wpFlow_read ?_ rfl (fun w' hS => ?_) ?_
          rotate_left
          · go_simp
            rfl
          go_frame
          refine wpFlow_skip rfl ?_
          go_frame
          refine wpFlow_skip rfl ?_
          go_frame
          refine wpFlow_skip rfl ?_
          go_frame
          refine wpFlow_skip rfl ?_
          go_frame
          refine wpFlow_skip rfl ?_
          go_frame
          refine wpFlow_skip rfl ?_
          go_frame
          refine wpFlow_skip rfl ?_
          go_frame
          refine wpFlow_skip rfl ?_
          go_frame
          refine wpFlow_skip rfl ?_
          go_frame
          refine wpFlow_skip rfl ?_
          go_frame
          refine wpFlow_skip rfl ?_
          go_frame
          refine wpFlow_skip rfl ?_
          go_frame
          refine wpFlow_nil fun w5b hS => ?_
          have hs5b := hS.size
          have HB5b := hide (HB5.out.trans (Below.mono hS (by omega)))
          have HK5b := hide (HK5.out.below hS hbx)
          have HO5b := hide (HO5.out.below hS (by omega))
          clear hS k0 k1 k2
          have hbx : w1.heap.size < w5b.heap.size := by omega
          have hgl : g < w5b.heap.size := by omega
          have k0 := HK5b.out.cell 0
          have k1 := HK5b.out.cell 1
          have k2 := HK5b.out.cell 2
          simp at k0 k1 k2
          have HCt := hide ((HO5b.out.rd HM.out (by omega)).take (m := j) (by omega))
          have hcd := (HO5b.out.rd HM.out (by omega)).drop (m := j) (by omega)
          rw [Nat.zero_add] at hcd
          have HCd := hide hcd
          clear hcd
          obtain ⟨xa, xb, hA, hB, la, lb⟩ := Pag.parts_pack HRr.out HRt.out (by rw [← HM.out]; omega)
          have hA' := hA
          have hB' := hB
          unfold Pag.partA at hA'
          unfold Pag.partB at hB'
          rw [HJ.out] at hA' hB'
          have HPA := hide hA'
          have HPB := hide hB'
          obtain ⟨f, hf⟩ : ∃ f, p.cells[j]? = some f := ⟨p.cells[j]'(by rw [← HM.out]; omega), List.getElem?_eq_getElem (by rw [← HM.out]; omega)⟩
          have HP := hide (Pag.splitB_yes HU.out (by rw [← HM.out]; exact h2) hA hB (by rw [HJ.out]; exact hf))
          have HF := hide hf
          have hS2 := fun w' => run_cellsFrom w' g m cv j (by omega) (by omega)
          have HSl2 := hide hS2
          clear hA hB hA' hB' hf hS2
          go_upto_region 9 with fail
          have hTs := tab_stable (l := [(7, (fun u w => w.ownsRow w5b.heap.size 5 1 (tup1 u) 4080 (xa.map B8)))]) (fun p hp => by
              simp only [List.mem_cons, List.not_mem_nil, or_false] at hp
              subst hp
              exact fun _ _ _ hu hb => own_below hu hb)
          have hSs := shp_some (l := [(7, IsPk)]) (fun p hp => by
              simp only [List.mem_cons, List.not_mem_nil, or_false] at hp
              subst hp
              exact IsPk.some)
          have HTs := hide hTs
          have HSs := hide hSs
          clear hTs hSs
          refine wp_region_toldL (tab [(7, (fun u w => w.ownsRow w5b.heap.size 5 1 (tup1 u) 4080 (xa.map B8)))]) (Up w5b) (w5b.heap.size) 13 (shp [(7, IsPk)]) (HSs.out) (HTs.out) (Up.lives _) Gro (Gro.turns (Up.lives _) (HTs.out)) (by kernel_rfl) (by kernel_rfl) (Up.start _) (Nat.le_refl _) ?_
          simp only [List.take_succ_cons, List.take_zero, List.drop_succ_cons, List.drop_zero]
          refine wpTold_read ?_ rfl rfl (fun w' hS => ?_) ?_
          rotate_left
          · go_simp
            rfl
          go_frame
          refine wpTold_read ?_ rfl rfl (fun w' hS => ?_) ?_
          rotate_left
          · have k0' := (hS.cell (p := ⟨w1.heap.size, 0, none⟩) hbx).trans k0
            have k1' := (hS.cell (p := ⟨w1.heap.size, 1, none⟩) hbx).trans k1
            have k2' := (hS.cell (p := ⟨w1.heap.size, 2, none⟩) hbx).trans k2
            go_simp
            rfl
          go_frame
          refine wpTold_read ?_ rfl rfl (fun w' hS => ?_) ?_
          rotate_left
          · go_simp
            rfl
          go_frame
          refine wpTold_read ?_ rfl rfl (fun w' hS => ?_) ?_
          rotate_left
          · have k0' := (hS.cell (p := ⟨w1.heap.size, 0, none⟩) hbx).trans k0
            have k1' := (hS.cell (p := ⟨w1.heap.size, 1, none⟩) hbx).trans k1
            have k2' := (hS.cell (p := ⟨w1.heap.size, 2, none⟩) hbx).trans k2
            go_simp
            rfl
          go_frame
          refine wpTold_read ?_ rfl rfl (fun w' hS => ?_) ?_
          rotate_left
          · go_simp
            rfl
          go_frame
          refine wpTold_read ?_ rfl rfl (fun w' hS => ?_) ?_
          rotate_left
          · have s1 := HSl1.out w'
            go_simp
            rfl
          go_frame
          refine wpTold_read ?_ rfl rfl (fun w' hS => ?_) ?_
          rotate_left
          · go_simp
            rfl
          go_frame
          refine' wpTold_call _ _ _ rfl rfl (fun w' => ?_) (fun w' hS hh hs => ?_) (fun v7 h7 => ?_)
          rotate_left 2
          · go_simp
            constructor <;> rfl
          · have cp := rPack_any p.kind 0 (some ⟨g, 0, none⟩) j cv (p.cells.take j) _ (by exact (HCt.out.below hS (Nat.le_refl _)).more hS.size) (by omega)
            refine cp.mono ?_
            rintro e w9 ⟨v, rfl, h1, h2⟩
            rw [show Pag.pack ⟨p.kind, 0, p.cells.take j⟩ = (0, xa) from HPA.out] at h1 ⊢
            simp only at h1 ⊢
            rw [show xa.length = 4080 by assumption] at h1
            obtain ⟨A, c, rfl⟩ := own_sl h1
            exact ⟨_, rfl, ⟨⟨A, c, rfl⟩, own_base h1 hh⟩, h2⟩
          obtain ⟨A7, c7, rfl⟩ := h7
          go_frame
          refine wpTold_read ?_ rfl rfl (fun w' hS => ?_) ?_
          rotate_left
          · go_simp
            rfl
          go_frame
          refine wpTold_read ?_ rfl rfl (fun w' hS => ?_) ?_
          rotate_left
          · go_simp
            rfl
          go_frame
          refine wpTold_read ?_ rfl rfl (fun w' hS => ?_) ?_
          rotate_left
          · go_simp
            rfl
          go_frame
          refine wpTold_read ?_ rfl rfl (fun w' hS => ?_) ?_
          rotate_left
          · go_simp
            rfl
          go_frame
          refine wpTold_read ?_ rfl rfl (fun w' hS => ?_) ?_
          rotate_left
          · go_simp
            rfl
          go_frame
          refine wpTold_nil fun w6 hH => ?_
          have h7 : w6.ownsRow w5b.heap.size 5 1 (.slice A7 4080 c7) 4080 (xa.map B8) := hH.told 7 _ _ rfl rfl
          have hup : Below w5b.heap.size w5b w6 := hH.s
          have hs6 := hup.size
          have HB6 := hide (HB5b.out.trans (hup.mono (by omega)))
          have HK6 := hide (HK5b.out.below hup hbx)
          have HO6 := hide (HO5b.out.below hup (by omega))
          have HCd6 := hide ((HCd.out.below hup (Nat.le_refl _)).more hs6)
          have HA6 := hide (own_base h7 (show w.heap.size ≤ w5b.heap.size by omega))
          clear hH h7 hup k0 k1 k2
          have k0 := HK6.out.cell 0
          have k1 := HK6.out.cell 1
          have k2 := HK6.out.cell 2
          simp at k0 k1 k2
          have hbx : w1.heap.size < w6.heap.size := by omega
          go_upto_region 10 with fail
          have hTs := tab_stable (l := [(9, (fun u w => w.ownsRow w6.heap.size 5 1 (tup1 u) 4080 (xb.map B8)))]) (fun p hp => by
              simp only [List.mem_cons, List.not_mem_nil, or_false] at hp
              subst hp
              exact fun _ _ _ hu hb => own_below hu hb)
          have hSs := shp_some (l := [(9, IsPk)]) (fun p hp => by
              simp only [List.mem_cons, List.not_mem_nil, or_false] at hp
              subst hp
              exact IsPk.some)
          have HTs := hide hTs
          have HSs := hide hSs
          clear hTs hSs
          refine wp_region_toldL (tab [(9, (fun u w => w.ownsRow w6.heap.size 5 1 (tup1 u) 4080 (xb.map B8)))]) (Up w6) (w6.heap.size) 15 (shp [(9, IsPk)]) (HSs.out) (HTs.out) (Up.lives _) Gro (Gro.turns (Up.lives _) (HTs.out)) (by kernel_rfl) (by kernel_rfl) (Up.start _) (Nat.le_refl _) ?_
          simp only [List.take_succ_cons, List.take_zero, List.drop_succ_cons, List.drop_zero]
          refine wpTold_read ?_ rfl rfl (fun w' hS => ?_) ?_
          rotate_left
          · go_simp
            rfl
          go_frame
          refine wpTold_read ?_ rfl rfl (fun w' hS => ?_) ?_
          rotate_left
          · have k0' := (hS.cell (p := ⟨w1.heap.size, 0, none⟩) hbx).trans k0
            have k1' := (hS.cell (p := ⟨w1.heap.size, 1, none⟩) hbx).trans k1
            have k2' := (hS.cell (p := ⟨w1.heap.size, 2, none⟩) hbx).trans k2
            go_simp
            rfl
          go_frame
          refine wpTold_read ?_ rfl rfl (fun w' hS => ?_) ?_
          rotate_left
          · go_simp
            rfl
          go_frame
          refine wpTold_read ?_ rfl rfl (fun w' hS => ?_) ?_
          rotate_left
          · have k0' := (hS.cell (p := ⟨w1.heap.size, 0, none⟩) hbx).trans k0
            have k1' := (hS.cell (p := ⟨w1.heap.size, 1, none⟩) hbx).trans k1
            have k2' := (hS.cell (p := ⟨w1.heap.size, 2, none⟩) hbx).trans k2
            go_simp
            rfl
          go_frame
          refine wpTold_read ?_ rfl rfl (fun w' hS => ?_) ?_
          rotate_left
          · go_simp
            rfl
          go_frame
          refine wpTold_read ?_ rfl rfl (fun w' hS => ?_) ?_
          rotate_left
          · have k0' := (hS.cell (p := ⟨w1.heap.size, 0, none⟩) hbx).trans k0
            have k1' := (hS.cell (p := ⟨w1.heap.size, 1, none⟩) hbx).trans k1
            have k2' := (hS.cell (p := ⟨w1.heap.size, 2, none⟩) hbx).trans k2
            go_simp
            rfl
          go_frame
          refine wpTold_read ?_ rfl rfl (fun w' hS => ?_) ?_
          rotate_left
          · go_simp
            rfl
          go_frame
          refine wpTold_read ?_ rfl rfl (fun w' hS => ?_) ?_
          rotate_left
          · have s2 := HSl2.out w'
            go_simp
            rfl
          go_frame
          refine wpTold_read ?_ rfl rfl (fun w' hS => ?_) ?_
          rotate_left
          · go_simp
            rfl
          go_frame
          refine' wpTold_call _ _ _ rfl rfl (fun w' => ?_) (fun w' hS hh hs => ?_) (fun v9 h9 => ?_)
          rotate_left 2
          · go_simp
            constructor <;> rfl
          · have cp := rPack_any p.kind p.next (some ⟨g, j * 2, none⟩) (m - j) (cv - j) (p.cells.drop j) _ (by exact (HCd6.out.below hS (Nat.le_refl _)).more hS.size) (by omega)
            refine cp.mono ?_
            rintro e w9 ⟨v, rfl, h1, h2⟩
            rw [show Pag.pack ⟨p.kind, p.next, p.cells.drop j⟩ = (0, xb) from HPB.out] at h1 ⊢
            simp only at h1 ⊢
            rw [show xb.length = 4080 by assumption] at h1
            obtain ⟨A, c, rfl⟩ := own_sl h1
            exact ⟨_, rfl, ⟨⟨A, c, rfl⟩, own_base h1 hh⟩, h2⟩
          obtain ⟨A9, c9, rfl⟩ := h9
          go_frame
          refine wpTold_read ?_ rfl rfl (fun w' hS => ?_) ?_
          rotate_left
          · go_simp
            rfl
          go_frame
          refine wpTold_read ?_ rfl rfl (fun w' hS => ?_) ?_
          rotate_left
          · go_simp
            rfl
          go_frame
          refine wpTold_read ?_ rfl rfl (fun w' hS => ?_) ?_
          rotate_left
          · go_simp
            rfl
          go_frame
          refine wpTold_read ?_ rfl rfl (fun w' hS => ?_) ?_
          rotate_left
          · go_simp
            rfl
          go_frame
          refine wpTold_read ?_ rfl rfl (fun w' hS => ?_) ?_
          rotate_left
          · go_simp
            rfl
          go_frame
          refine wpTold_nil fun w7 hH => ?_
          have h9 : w7.ownsRow w6.heap.size 5 1 (.slice A9 4080 c9) 4080 (xb.map B8) := hH.told 9 _ _ rfl rfl
          have hup : Below w6.heap.size w6 w7 := hH.s
          have hs7 := hup.size
          have HB7 := hide (HB6.out.trans (hup.mono (by omega)))
          have HK7 := hide (HK6.out.below hup hbx)
          have HO7 := hide (HO6.out.below hup (by omega))
          have HA7 := hide (own_below HA6.out hup)
          have HX7 := hide (own_base h9 (show w.heap.size ≤ w6.heap.size by omega))
          clear hH h9 hup k0 k1 k2
          have k0 := HK7.out.cell 0
          have k1 := HK7.out.cell 1
          have k2 := HK7.out.cell 2
          simp at k0 k1 k2
          have hbx : w1.heap.size < w7.heap.size := by omega
          obtain ⟨g', b1, b2, hgg, hgl, d1, d2, ho1, _⟩ := HO7.out.at HF.out
          injection hgg with hgg
          injection hgg with hgg _
          subst hgg
          have HOb := hide ho1
          clear d2 ho1
          have hjm : j < m := by omega
          go_upto_region 11 with fail
          have hTs := tab_stable (l := []) (fun p hp => by cases hp)
          have hSs := shp_some (l := []) (fun p hp => by cases hp)
          have HTs := hide hTs
          have HSs := hide hSs
          clear hTs hSs
          refine wp_region_toldL (tab []) (Up w7) (w7.heap.size) 12 (shp []) (HSs.out) (HTs.out) (Up.lives _) Gro (Gro.turns (Up.lives _) (HTs.out)) (by kernel_rfl) (by kernel_rfl) (Up.start _) (Nat.le_refl _) ?_
          simp only [List.take_succ_cons, List.take_zero, List.drop_succ_cons, List.drop_zero]
          refine wpTold_read ?_ rfl rfl (fun w' hS => ?_) ?_
          rotate_left
          · go_simp
            rfl
          go_frame
          refine wpTold_read ?_ rfl rfl (fun w' hS => ?_) ?_
          rotate_left
          · go_simp
            rfl
          go_frame
          refine wpTold_read ?_ rfl rfl (fun w' hS => ?_) ?_
          rotate_left
          · go_simp
            rfl
          go_frame
          refine wpTold_read ?_ rfl rfl (fun w' hS => ?_) ?_
          rotate_left
          · have k0' := (hS.cell (p := ⟨w1.heap.size, 0, none⟩) hbx).trans k0
            have k1' := (hS.cell (p := ⟨w1.heap.size, 1, none⟩) hbx).trans k1
            have k2' := (hS.cell (p := ⟨w1.heap.size, 2, none⟩) hbx).trans k2
            have d1' := (hS.cell (p := ⟨g, j * 2, none⟩) hgl).trans d1
            go_simp
            rfl
          go_frame
          refine wpTold_read ?_ rfl rfl (fun w' hS => ?_) ?_
          rotate_left
          · go_simp
            rfl
          go_frame
          refine wpTold_read ?_ rfl rfl (fun w' hS => ?_) ?_
          rotate_left
          · go_simp
            rfl
          go_frame
          refine wpTold_read ?_ rfl rfl (fun w' hS => ?_) ?_
          rotate_left
          · go_simp
            rfl
          go_frame
          refine wpTold_read ?_ rfl rfl (fun w' hS => ?_) ?_
          rotate_left
          · have k0' := (hS.cell (p := ⟨w1.heap.size, 0, none⟩) hbx).trans k0
            have k1' := (hS.cell (p := ⟨w1.heap.size, 1, none⟩) hbx).trans k1
            have k2' := (hS.cell (p := ⟨w1.heap.size, 2, none⟩) hbx).trans k2
            have d1' := (hS.cell (p := ⟨g, j * 2, none⟩) hgl).trans d1
            go_simp
            rfl
          go_frame
          refine wpTold_read ?_ rfl rfl (fun w' hS => ?_) ?_
          rotate_left
          · go_simp
            rfl
          go_frame
          refine wpTold_read ?_ rfl rfl (fun w' hS => ?_) ?_
          rotate_left
          · go_simp
            rfl
          go_frame
          refine wpTold_read ?_ rfl rfl (fun w' hS => ?_) ?_
          rotate_left
          · go_simp
            rfl
          go_frame
          refine wpTold_read ?_ rfl rfl (fun w' hS => ?_) ?_
          rotate_left
          · go_simp
            rfl
          go_frame
          refine wpTold_nil fun w8 hH => ?_
          have hup : Below w7.heap.size w7 w8 := hH.s
          have HB8 := hide (HB7.out.trans (hup.mono (by omega)))
          have hAA := own_below HA7.out hup
          have hXX := own_below HX7.out hup
          have HR1 : Hid (Bo w8 w.heap.size 0 (.slice A7 4080 c7) xa) := .inl ⟨by rw [la]; exact hAA, by omega⟩
          have HR2 : Hid (Bo w8 w.heap.size 0 (.slice A9 4080 c9) xb) := .inl ⟨by rw [lb]; exact hXX, by omega⟩
          have HR3 := hide (HOb.out.below hup (by omega))
          clear hH hup k0 k1 k2 hAA hXX d1
          go_wp2_with fail
          exact bodyPost_ret (v := .tuple #[.slice A7 4080 c7, .slice A9 4080 c9, b1, .int .i64 0]) (by simp [results, Try.results30, go_sem]) rfl (SpR.yes HP.out HB8.out HR1.out HR2.out HR3.out)
end Go.Proofs.Ytpoilndlfbmhgaa
