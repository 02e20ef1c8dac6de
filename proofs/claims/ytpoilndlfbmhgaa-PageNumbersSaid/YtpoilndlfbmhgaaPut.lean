/-
  The walk of page.Put. Conditions: the bytes read as lists.
-/
import Derived.Test.YtpoilndlfbmhgaaRoom
namespace Go.Proofs.Ytpoilndlfbmhgaa
open Go.RowKit

theorem prs_set : ∀ (bs : List (Value × Value)) (i : Nat) (b1 b2 : Value), prs (bs.set i (b1, b2)) = ((prs bs).set (i * 2) b1).set (i * 2 + 1) b2 := by
  intro bs
  induction bs with
  | nil => intro i b1 b2; simp [prs]
  | cons b r ih =>
    intro i b1 b2
    cases i with
    | zero => rfl
    | succ i =>
      rw [List.set_cons_succ]
      simp only [prs]
      rw [ih, show (i + 1) * 2 = i * 2 + 1 + 1 by omega]
      rfl
/-- 'l[i] = c' of cells. -/
theorem CeRow.put {w : World} {lo k g n cap i : Nat} {cs : List Pag.Ce} {bs : List (Value × Value)} {cur : Array Value} (h : CeRow w lo k g n cap cs bs cur) {f : Pag.Ce} {b1 b2 : Value} (hb1 : Bo w lo k b1 f.1) (hb2 : Bo w lo k b2 f.2) :
    CeOwn ((w.setCell ⟨g, i * 2, none⟩ b1).setCell ⟨g, i * 2 + 1, none⟩ b2) lo k (.slice (some ⟨g, 0, none⟩) n cap) (cs.set i f) ∧ Others w ((w.setCell ⟨g, i * 2, none⟩ b1).setCell ⟨g, i * 2 + 1, none⟩ b2) := by
  have e1 := setCell_eq_setRow w g (i * 2) cur 41 (0, 0) b1 h.heap
  obtain ⟨W, hW⟩ : ∃ W, W = w.setCell ⟨g, i * 2, none⟩ b1 := ⟨_, rfl⟩
  rw [← hW] at e1 ⊢
  have hg1 : W.heap[g]? = some (.cells (cur.setIfInBounds (i * 2) b1) 41 (0, 0)) := by rw [e1]; exact setRow_heap w g cur _ 41 (0, 0) h.heap
  have e2 := setCell_eq_setRow W g (i * 2 + 1) _ 41 (0, 0) b2 hg1
  rw [e2]
  have hg2 : (W.setRow g ((cur.setIfInBounds (i * 2) b1).setIfInBounds (i * 2 + 1) b2)).heap[g]? = some (.cells ((cur.setIfInBounds (i * 2) b1).setIfInBounds (i * 2 + 1) b2) 41 (0, 0)) := setRow_heap W g _ _ 41 (0, 0) hg1
  have keep : ∀ (b : Value) (l : List UInt8), Bo w lo k b l → Bo W lo k b l := fun b l hb => by rw [e1]; exact hb.row h.heap h.big
  refine ⟨h.own (es := bs.set i (b1, b2)) hg2 (fun b l hb => (keep b l hb).row hg1 h.big) (by rw [List.length_set]; exact h.len) (by rw [List.length_set, List.length_set]; exact h.bl) h.nc (by simp [h.size]) ?_ ?_, ?_⟩
  · rw [prs_set, ← h.take, Array.toList_setIfInBounds, Array.toList_setIfInBounds, List.take_set, List.take_set]
  · intro j c b hc hb
    by_cases hj : i = j
    · subst hj
      rw [List.getElem?_set_self'] at hc hb
      have hc' : c = f := by
        cases hx : cs[i]? with
        | none => rw [hx] at hc; cases hc
        | some y => rw [hx] at hc; simpa using hc.symm
      have hb' : b = (b1, b2) := by
        cases hx : bs[i]? with
        | none => rw [hx] at hb; cases hb
        | some y => rw [hx] at hb; simpa using hb.symm
      subst hc' hb'
      exact ⟨hb1, hb2⟩
    · rw [List.getElem?_set_ne hj] at hc hb
      exact h.body j c b hc hb
  · have o1 := Others.row h.heap (cur.setIfInBounds (i * 2) b1)
    rw [← e1] at o1
    exact o1.trans (Others.row hg1 _)
theorem BE.base {w w1 w' : World} {r : Nat × List UInt8} {e : Ending} (h : BE w1 r e w') (hs : w.heap.size ≤ w1.heap.size) (hb : Below w.heap.size w w1) : BE w r e w' := by
  obtain ⟨v, e1, h1, h2⟩ := h
  exact ⟨v, e1, own_base h1 hs, hb.trans (h2.mono hs)⟩
set_option linter.unusedVariables false in
set_option maxRecDepth 100000 in
set_option maxHeartbeats 1600000 in
theorem put_any (A A1 A2 : Option Addr) (n c n1 c1 n2 c2 : Nat) (l key val : List UInt8) (w : World) (hl : Rb w w.heap.size A n l) (hn : n ≤ 140737488355328) (hc : n ≤ c) (hc2 : c ≤ 9223372036854775807)
    (hk : Rb w w.heap.size A1 n1 key) (hk1 : n1 ≤ 140737488355328) (hk2 : n1 ≤ c1) (hk3 : c1 ≤ 9223372036854775807) (hv : Rb w w.heap.size A2 n2 val) (hv1 : n2 ≤ 140737488355328) (hv2 : n2 ≤ c2) (hv3 : c2 ≤ 9223372036854775807) :
    Calls Try.prog 22 #[.slice A n c, .slice A1 n1 c1, .slice A2 n2 c2] w (BE w (Pag.putB l key val)) := by
  have HL := hide hl
  have HK := hide hk
  have hkl := hk.len
  have hvl := hv.len
  have BK : Hid (Bd w w.heap.size (.slice A1 n1 c1) key) := by rw [← hkl] at hk hk1 hk2 ⊢; exact ⟨A1, c1, rfl, hk, hk1, hk2, hk3⟩
  have BV : Hid (Bd w w.heap.size (.slice A2 n2 c2) val) := by rw [← hvl] at hv hv1 hv2 ⊢; exact ⟨A2, c2, rfl, hv, hv1, hv2, hv3⟩
  have HM1 : Hid (mayN n1 n2 = Pag.mayB key val) := by show mayN n1 n2 = _; unfold mayN Pag.mayB; rw [hkl, hvl]
  clear hl hk hv hkl hvl hk1 hk2 hk3 hv1 hv2 hv3
  go_enter Try.func22, Try.ntmps22
  go_wp2_with fail
  with_reducible refine (unpack_any A n c l _ HL.out hn hc hc2).mono ?_
  rintro e w1 ⟨hb1, hr⟩
  have HB1 := hide hb1
  have hs1 := hb1.size
  cases hu : Pag.unpB l with
  | none =>
    rw [hu] at hr
    obtain rfl := hr
    have HP := hide (Pag.putB_none (key := key) (val := val) hu)
    clear hu hb1
    go_wp2_with fail
    go_ret2
    exact BE.err 170 HP.out (HB1.out.alloc hs1 _)
  | some p =>
    rw [hu] at hr
    obtain ⟨v, rfl, Av, cv, rfl, hown⟩ := hr
    obtain ⟨hr1, hr2, hr3⟩ := Pag.unpB_right hu
    have HU := hide hu
    have HRr := hide hr1
    have HRt := hide hr2
    obtain ⟨m, hm⟩ : ∃ m, m = p.cells.length := ⟨_, rfl⟩
    rw [← hm] at hown hr3 ⊢
    have HM := hide hm
    have hmc : m ≤ cv ∧ cv ≤ 9223372036854775807 := by
      obtain ⟨A', c', e', x1, x2⟩ := hown.form
      rw [← HM.out] at e' x1
      injection e' with _ _ e3
      subst e3
      exact ⟨x1, x2⟩
    obtain ⟨hmc1, hmc2⟩ := hmc
    obtain ⟨w2, hw2⟩ : ∃ w2, w2 = w1.alloc (.cells #[.int .u8 (p.kind.toNat : Int), .int .i64 p.next, .slice Av m cv] 25) := ⟨_, rfl⟩
    have hb2 : Below w1.heap.size w1 w2 := by rw [hw2]; exact (Below.refl _ _).alloc (Nat.le_refl _) _
    have HK2 : Hid (Blk w2 w1.heap.size 25 #[.int .u8 (p.kind.toNat : Int), .int .i64 p.next, .slice Av m cv]) := by rw [hw2]; exact Blk.new _ _ _
    have hs2 : w1.heap.size < w2.heap.size := by rw [hw2]; simp
    have HB2 := hide (HB1.out.trans (hb2.mono hs1))
    have HO2 := hide (hown.below hb2 hs1)
    clear hu hr1 hr2 hm hb1 hown
    go_upto_region 2 with fail
    rw [← hw2]
    clear hw2 hb2
    have k0 := HK2.out.cell 0
    have k1 := HK2.out.cell 1
    have k2 := HK2.out.cell 2
    simp at k0 k1 k2
    have HRi := hide (Pag.right_rise HRr.out)
    by_cases hk0 : p.kind = 0
    · have t0 : ((p.kind.toNat : Int) == 0) = true := by rw [hk0]; rfl
      have HP := hide (Pag.putB_arg (key := key) (val := val) HU.out (.inl hk0))
      clear hk0
      go_wp2_with fail
      go_ret2
      exact BE.err 2 HP.out HB2.out
    · have t0 : ((p.kind.toNat : Int) == 0) = false := by
        have : p.kind.toNat ≠ 0 := fun e => hk0 (UInt8.toNat_inj.1 e)
        simp
        omega
      have HK0 := hide hk0
      clear hk0
      cases hmy : Pag.mayB key val with
      | false =>
        have HP := hide (Pag.putB_arg HU.out (.inr hmy))
        have HM2 : Hid (mayN n1 n2 = false) := HM1.out.trans hmy
        clear hmy
        go_wp2_with fail
        with_reducible refine (mayBe_any A1 A2 n1 c1 n2 c2 _).mono ?_
        rw [HM2.out]
        rintro e w' ⟨rfl, rfl⟩
        go_wp2_with fail
        go_ret2
        exact BE.err 2 HP.out HB2.out
      | true =>
        have HP := hide (Pag.putB_yes HU.out HK0.out hmy)
        have HM2 : Hid (mayN n1 n2 = true) := HM1.out.trans hmy
        clear hmy
        go_wp2_with fail
        with_reducible refine (mayBe_any A1 A2 n1 c1 n2 c2 _).mono ?_
        rw [HM2.out]
        rintro e w' ⟨rfl, rfl⟩
        obtain ⟨w3, hw3⟩ : ∃ w3, w3 = w2.alloc (.cells #[.slice A1 n1 c1, .slice A2 n2 c2] 41) := ⟨_, rfl⟩
        have hb3 : Below w2.heap.size w2 w3 := by rw [hw3]; exact (Below.refl _ _).alloc (Nat.le_refl _) _
        have HC3 : Hid (Blk w3 w2.heap.size 41 #[.slice A1 n1 c1, .slice A2 n2 c2]) := by rw [hw3]; exact Blk.new _ _ _
        have hs3 : w2.heap.size < w3.heap.size := by rw [hw3]; simp
        have HB3 := hide (HB2.out.trans (hb3.mono (by omega)))
        have HK3 := hide (HK2.out.below hb3 hs2)
        have HO3 := hide (HO2.out.below hb3 (by omega))
        clear k0 k1 k2 hb3
        go_upto_region 7 with fail
        rw [← hw3]
        clear hw3
        have k2 := HK3.out.cell 2
        simp at k2
        go_wp2_with fail
        with_reducible refine (find_any Av A1 m cv n1 c1 p.cells key _ (by exact HO3.out.rd HM.out (by omega)) (by exact (HK.out.below HB3.out (Nat.le_refl _)).more (by omega)) (by omega) HRi.out).mono ?_
        rintro e w4 ⟨rfl, hb4⟩
        have hs4 := hb4.size
        have HB4 := hide (HB3.out.trans (hb4.mono (by omega)))
        have HK4 := hide (HK3.out.below hb4 (by omega))
        have HC4 := hide (HC3.out.below hb4 hs3)
        have HO4 := hide ((HO3.out.below hb4 (by omega)).up (k' := w.heap.size) (Nat.zero_le _) (Nat.le_refl _))
        have BK4 : Hid (Bo w4 w.heap.size w.heap.size (.slice A1 n1 c1) key) := .inr ⟨BK.out.keep fun _ hp => HB4.out.cell hp, Nat.le_refl _⟩
        have BV4 : Hid (Bo w4 w.heap.size w.heap.size (.slice A2 n2 c2) val) := .inr ⟨BV.out.keep fun _ hp => HB4.out.cell hp, Nat.le_refl _⟩
        clear hb4 k2
        have k0 := HK4.out.cell 0
        have k1 := HK4.out.cell 1
        have k2 := HK4.out.cell 2
        have j0 := HC4.out.cell 0
        have j1 := HC4.out.cell 1
        simp at k0 k1 k2 j0 j1
        obtain ⟨i, hi⟩ : ∃ i, i = Pag.findN p.cells key := ⟨_, rfl⟩
        have hile : i ≤ m := by rw [hi, HM.out]; exact Pag.findN_le _ _
        have HI := hide hi
        cases hh : Pag.hasB p.cells key with
        | true =>
          have HPN : Hid (Pag.putN p.cells key val = p.cells.set i (key, val)) := by show _ = _; rw [hi]; unfold Pag.putN; rw [if_pos hh]
          obtain ⟨f, hf, hfk⟩ := Pag.has_find hh
          rw [← hi] at hf ⊢
          have hilt : i < m := by rw [HM.out]; exact (List.getElem?_eq_some_iff.1 hf).1
          obtain ⟨g, bs, cur, rfl, hrow⟩ := HO4.out.row HM.out (by omega)
          have hgl : g < w4.heap.size := lt_of_block hrow.heap
          obtain ⟨g', b1, b2, hgg, _, d1, d2, _, _⟩ := HO4.out.at hf
          injection hgg with hgg
          injection hgg with hgg _ _
          subst hgg
          have z1 : w4.frozen? ⟨g, i * 2, none⟩ = false := Blk.frozen (show Blk w4 g 41 cur from hrow.heap) _
          have z2 : w4.frozen? ⟨g, i * 2 + 1, none⟩ = false := Blk.frozen (show Blk w4 g 41 cur from hrow.heap) _
          obtain ⟨hO5, hX5⟩ := hrow.put (i := i) (f := (key, val)) BK4.out BV4.out
          obtain ⟨w5, hw5⟩ : ∃ w5, w5 = (w4.setCell ⟨g, i * 2, none⟩ (.slice A1 n1 c1)).setCell ⟨g, i * 2 + 1, none⟩ (.slice A2 n2 c2) := ⟨_, rfl⟩
          rw [← hw5] at hO5 hX5
          have HO5 := hide hO5
          have HK5 := hide (hX5 _ _ _ HK4.out (by decide))
          have HB5 : Hid (Below w.heap.size w w5) := by rw [hw5]; exact (HB4.out.setCell hrow.big _).setCell hrow.big _
          have hs5 : w4.heap.size ≤ w5.heap.size := by rw [hw5]; simp
          have hSl : (p.cells.set i (key, val)).length = m := by rw [List.length_set, HM.out]
          have HSl := hide hSl
          clear hh hf hfk hi hrow hO5 hX5 hSl
          go_upto_region 11 with fail
          rw [← hw5]
          clear hw5 k0 k1 k2 j0 j1 d1 d2 z1 z2
          have k0 := HK5.out.cell 0
          have k1 := HK5.out.cell 1
          have k2 := HK5.out.cell 2
          simp at k0 k1 k2
          go_wp2_with fail
          have cp := pack_any p.kind p.next (some ⟨g, 0, none⟩) m cv (p.cells.set i (key, val)) _ (by exact HO5.out.rd HSl.out.symm (by omega)) (by omega)
          rw [← HPN.out, ← HP.out] at cp
          with_reducible refine cp.mono ?_
          clear cp
          rintro e w6 hbe
          obtain ⟨v6, rfl, h1, h2⟩ := hbe
          have HBE : Hid (BE w (Pag.putB l key val) (.returned (.tuple #[v6, .int .i64 ((Pag.putB l key val).1 : Int)])) w6) := BE.base ⟨v6, rfl, h1, h2⟩ (show w.heap.size ≤ w5.heap.size by omega) HB5.out
          clear h1 h2 k0 k1 k2
          go_wp2_with fail
          go_ret2
          exact HBE.out
        | false =>
          have HPN : Hid (Pag.putN p.cells key val = p.cells.take i ++ [(key, val)] ++ p.cells.drop i) := by show _ = _; rw [hi]; unfold Pag.putN; rw [if_neg (by rw [hh]; simp)]
          rw [← hi]
          clear hh hi
          obtain ⟨w5, hw5⟩ : ∃ w5, w5 = w4.alloc (.cells #[.slice A1 n1 c1, .slice A2 n2 c2] 41) := ⟨_, rfl⟩
          have hb5 : Below w4.heap.size w4 w5 := by rw [hw5]; exact (Below.refl _ _).alloc (Nat.le_refl _) _
          have HV5 : Hid (Blk w5 w4.heap.size 41 #[.slice A1 n1 c1, .slice A2 n2 c2]) := by rw [hw5]; exact Blk.new _ _ _
          have hs5 : w4.heap.size ≤ w5.heap.size := hb5.size
          have hne : ∀ g, Av = some ⟨g, 0, none⟩ → w4.heap.size ≠ g := fun g e => by
            obtain ⟨bs, _, h2, _⟩ := HO4.out
            have := (h2.lt g (by rw [e]; rfl)).2
            omega
          have HNe := hide hne
          have HB5 := hide (HB4.out.trans (hb5.mono (by omega)))
          have HK5 := hide (HK4.out.below hb5 (by omega))
          have HO5 := hide (HO4.out.below hb5 (by omega))
          have BK5 := hide (BK4.out.below hb5 (by omega))
          have BV5 := hide (BV4.out.below hb5 (by omega))
          clear hb5 hne
          go_wp2_with fail
          rw [← hw5]
          clear hw5
          with_reducible refine (insert_any Av m cv i w.heap.size w.heap.size p.cells w5 HO5.out HM.out hile (key, val) (.slice A1 n1 c1) (.slice A2 n2 c2) BK5.out BV5.out w4.heap.size 1 HV5.out HNe.out (by omega) (by omega)).mono ?_
          rintro e w6 ⟨v6, rfl, ho6, hb6, hx6⟩
          rw [← HPN.out] at ho6
          have hpl : (Pag.putN p.cells key val).length = m + 1 := by rw [HPN.out, ins_len _ _ _ (by rw [← HM.out]; exact hile), HM.out]
          have HPl := hide hpl
          obtain ⟨A6, c6, rfl, hc6a, hc6b⟩ := ho6.form
          rw [HPl.out] at ho6 hc6a ⊢
          have hs6 := hb6.size
          have HB6 := hide (HB5.out.trans hb6)
          have HK6 := hide (hx6 _ _ _ HK5.out (by decide))
          obtain ⟨w7, hw7⟩ : ∃ w7, w7 = w6.setCell ⟨w1.heap.size, 2, none⟩ (.slice A6 (m + 1) c6) := ⟨_, rfl⟩
          have HK7 : Hid (Blk w7 w1.heap.size 25 #[.int .u8 (p.kind.toNat : Int), .int .i64 p.next, .slice A6 (m + 1) c6]) := by rw [hw7]; exact HK6.out.put 2 _
          have HB7 : Hid (Below w.heap.size w w7) := by rw [hw7]; exact HB6.out.setCell hs1 _
          have HO7 : Hid (CeOwn w7 w.heap.size w.heap.size (.slice A6 (m + 1) c6) (Pag.putN p.cells key val)) := by rw [hw7]; exact ho6.box HK6.out hs1 2 _
          have hs7 : w6.heap.size ≤ w7.heap.size := by rw [hw7]; simp
          clear ho6 hb6 hx6 k0 k1 k2 j0 j1 hpl
          have k0 := HK6.out.cell 0
          have k1 := HK6.out.cell 1
          have k2 := HK6.out.cell 2
          have q0 := HK6.out.frozen 2
          simp at k0 k1 k2
          go_upto_region 11 with fail
          rw [← hw7]
          clear hw7 k0 k1 k2 q0
          have k0 := HK7.out.cell 0
          have k1 := HK7.out.cell 1
          have k2 := HK7.out.cell 2
          simp at k0 k1 k2
          go_wp2_with fail
          have cp := pack_any p.kind p.next A6 (m + 1) c6 (Pag.putN p.cells key val) _ (by exact HO7.out.rd HPl.out.symm (by omega)) (by omega)
          rw [← HP.out] at cp
          with_reducible refine cp.mono ?_
          clear cp
          rintro e w8 hbe
          obtain ⟨v8, rfl, h1, h2⟩ := hbe
          have HBE : Hid (BE w (Pag.putB l key val) (.returned (.tuple #[v8, .int .i64 ((Pag.putB l key val).1 : Int)])) w8) := BE.base ⟨v8, rfl, h1, h2⟩ (show w.heap.size ≤ w7.heap.size by omega) HB7.out
          clear h1 h2 k0 k1 k2
          go_wp2_with fail
          go_ret2
          exact HBE.out
end Go.Proofs.Ytpoilndlfbmhgaa
