/-
  The walk of WireAnswers: for every answer, list of frames and number it is true. Conditions: what is read is of at most 2^20 elements.
-/
import Derived.Test.YtnieenlnpnaamaaErrAll
import Derived.Test.YtnieenlnpnaamaaSameAns
import Derived.Test.YtnieenlnpnaamaaRefRd
namespace Go.Proofs.Ytnieenlnpnaamaa
open Go.RowKit

theorem answer_all {ns : List ByteArray} {rs : List (List Cell.Val)} {c : Int} {en : Nat} {fl : List Fr} (h : (en, fl) = Wire.answer ⟨ns, rs, c⟩) : fl.length ≤ 2 + rs.length ∧ ∀ f ∈ fl, f.2.length ≤ 8000 := by
  by_cases he : en = 0
  · subst he
    exact answer_sizes h.symm
  · have := Wire.answer_err ⟨ns, rs, c⟩ (by rw [← h]; exact he)
    rw [← h] at this
    simp only at this
    subst this
    exact ⟨by simp, by simp⟩
theorem rd_same {l : List Fr} {ns ns' : List ByteArray} {rs rs' : List (List Cell.Val)} {c c' en en' : Int}
    (h : (Wire.Says ⟨ns, rs, c⟩ l ∧ en = 0) ∨ ((∀ a, ¬ Wire.Says a l) ∧ ns = [] ∧ rs = [] ∧ c = 0 ∧ en = 390))
    (h' : (Wire.Says ⟨ns', rs', c'⟩ l ∧ en' = 0) ∨ ((∀ a, ¬ Wire.Says a l) ∧ ns' = [] ∧ rs' = [] ∧ c' = 0 ∧ en' = 390)) : ns' = ns ∧ rs' = rs ∧ c' = c ∧ en' = en := by
  rcases h with ⟨h1, h2⟩ | ⟨h1, h2, h3, h4, h5⟩
  · rcases h' with ⟨g1, g2⟩ | ⟨g1, _⟩
    · have := g1.rc.symm.trans h1.rc
      injection this with e1 e2 e3
      exact ⟨e1, e2, e3, by rw [g2, h2]⟩
    · exact absurd h1 (g1 _)
  · rcases h' with ⟨g1, _⟩ | ⟨g1, g2, g3, g4, g5⟩
    · exact absurd g1 (h1 _)
    · exact ⟨by rw [g2, h2], by rw [g3, h3], by rw [g4, h4], by rw [g5, h5]⟩

theorem readRows_len : ∀ (fs : List Fr) (rs : List (List Cell.Val)), Wire.readRows fs = some rs → rs.length = fs.length := by
  intro fs
  induction fs with
  | nil => intro rs h; simp [Wire.readRows] at h; rw [h]; rfl
  | cons f fs ih =>
    intro rs h
    unfold Wire.readRows at h
    cases h1 : Cell.read f.2 with
    | none => rw [h1] at h; simp at h
    | some r =>
      cases h2 : Wire.readRows fs with
      | none => rw [h1, h2] at h; simp at h
      | some rs' =>
        rw [h1, h2] at h
        simp at h
        rw [← h, List.length_cons, List.length_cons, ih rs' h2]
theorem rd_bounds {l : List Fr} {ns : List ByteArray} {rs : List (List Cell.Val)} {c en : Int}
    (h : (Wire.Says ⟨ns, rs, c⟩ l ∧ en = 0) ∨ ((∀ a, ¬ Wire.Says a l) ∧ ns = [] ∧ rs = [] ∧ c = 0 ∧ en = 390)) : ns.length ≤ 255 ∧ rs.length ≤ l.length := by
  rcases h with ⟨h1, _⟩ | ⟨_, h2, h3, _⟩
  · obtain ⟨_, g2, _, _⟩ := Wire.answer_ok.1 h1.ans
    obtain ⟨m, f, hm, _, _, _, _, _, hr⟩ := h1.cand
    have := readRows_len _ _ hr
    refine ⟨(Wire.longN_ok g2).1, ?_⟩
    simp only at this
    rw [this, List.length_drop, List.length_take]
    omega
  · rw [h2, h3]
    exact ⟨by simp, by simp⟩
theorem putR_len (k : UInt8) (l : List UInt8) : (Wire.putR k l).2.length ≤ 8196 := by
  unfold Wire.putR
  split
  · simp
  · split
    · simp
    · simp only
      rw [Wire.put_len]
      omega
set_option linter.unusedVariables false in
set_option maxRecDepth 100000 in
set_option maxHeartbeats 1600000 in
theorem answers_walk (An : Option Addr) (nn cn : Nat) (ns : List ByteArray) (Ar : Option Addr) (nr cr : Nat) (rs : List (List Cell.Val)) (cnt : Int) (A : Option Addr) (n c : Nat) (l : List Fr) (x : Int) (w : World)
    (hn : Rt w w.heap.size An nn ns) (hr : Rrs w w.heap.size Ar nr rs) (hnn : nn ≤ 1048576) (hnr : nr ≤ 1048576) (hok : ∀ r ∈ rs, VOk r) (hc1 : -9223372036854775808 ≤ cnt) (hc2 : cnt ≤ 9223372036854775807)
    (hl : FrRd w w.heap.size A n l) (hlc : n ≤ c) (hcm : c ≤ maxLen) (hnb : n ≤ 1048576) (hcap : CapOk w A n) (hx : (Lit.int .i64 x).wf = true) :
    Calls Try.prog 6 #[.agg #[.slice An nn cn, .slice Ar nr cr, .int .i64 cnt], .slice A n c, .int .i64 x] w fun e w' => e = .returned (.bool true) ∧ Below w.heap.size w w' := by
  unfold maxLen at hcm
  have HL := hide hl
  have HN := hide hn
  have HR := hide hr
  have HCap := hide hcap
  clear hl hn hr hok hcap hc1 hc2 hx
  obtain ⟨w1, hw1⟩ : ∃ w1, w1 = w.alloc (.cells #[.slice An nn cn, .slice Ar nr cr, .int .i64 cnt] 50) := ⟨_, rfl⟩
  have HK1 : Hid (Blk w1 w.heap.size 50 #[.slice An nn cn, .slice Ar nr cr, .int .i64 cnt]) := by rw [hw1]; exact Blk.new _ _ _
  have HB1 : Hid (Below w.heap.size w w1) := by rw [hw1]; exact (Below.refl _ _).alloc (Nat.le_refl _) _
  have hs1 : w.heap.size < w1.heap.size := by rw [hw1]; simp
  go_enter Try.func6, Try.ntmps6
  go_upto_region 1 with fail
  rw [← hw1]
  clear hw1
  have a0 := HK1.out.cell 0
  have a1 := HK1.out.cell 1
  have a2 := HK1.out.cell 2
  simp at a0 a1 a2
  go_wp2_with fail
  with_reducible refine (wireAnswer_any An nn cn ns Ar nr cr rs cnt _ (by exact (HN.out.below HB1.out (Nat.le_refl _)).more (by omega)) (by exact (HR.out.below HB1.out (Nat.le_refl _)).more (by omega)) (by omega) (by omega)).mono ?_
  rintro e w2 ⟨v2, rfl, hf2, hb2⟩
  have HB2 := hide (HB1.out.trans (hb2.mono (Nat.le_of_lt hs1)))
  have HK2 := hide (HK1.out.below hb2 hs1)
  have hs2 := hb2.size
  obtain ⟨en, fl, hX⟩ : ∃ en fl, (en, fl) = Wire.answer ⟨ns, rs, cnt⟩ := ⟨_, _, rfl⟩
  obtain ⟨hfl1, hfl2⟩ := answer_all hX
  have hrl := HR.out.1
  have hfl0 : fl.length ≤ 1048578 := by omega
  rw [← hX] at hf2 ⊢
  simp only at hf2 ⊢
  obtain ⟨A2, c2, rfl⟩ := hf2.form
  have HF2 := hide hf2
  have HX := hide hX
  have HFl := hide (fun f hf => Nat.le_trans (hfl2 f hf) (show 8000 ≤ 140737488355328 by decide))
  clear a0 a1 a2 hf2 hX hb2 hfl1 hfl2 hrl
  have a0 := HK2.out.cell 0
  have a1 := HK2.out.cell 1
  have a2 := HK2.out.cell 2
  simp at a0 a1 a2
  go_wp2_with fail
  with_reducible refine (refAnswer_any An nn cn ns Ar nr cr rs cnt _ (by exact (HN.out.below HB2.out (Nat.le_refl _)).more (by omega)) (by exact (HR.out.below HB2.out (Nat.le_refl _)).more (by omega)) (by omega) (by omega)).mono ?_
  rintro e w3 ⟨v3, rfl, hf3, hb3⟩
  rw [← HX.out] at hf3 ⊢
  simp only at hf3 ⊢
  obtain ⟨A3, c3, rfl⟩ := hf3.form
  have HF3 := hide hf3
  have HF2b := hide (HF2.out.below hb3 (Nat.le_refl _))
  have HB3 := hide (HB2.out.trans (hb3.mono (by omega)))
  have hs3 := hb3.size
  clear a0 a1 a2 hf3 hb3 HF2 HK1 HK2
  go_wp2_with fail
  with_reducible refine (wireRead_any A n c l _ (by exact (HL.out.below HB3.out (Nat.le_refl _)).more (by omega)) hlc hcm (by omega)).mono ?_
  rintro e w4 ⟨An4, cn4, ns4, Ar4, cr4, rs4, cnt4, en4, rfl, hn4, hr4, hb4, halt4⟩
  have HB4 := hide (HB3.out.trans (hb4.mono (by omega)))
  have HF24 := hide (HF2b.out.below hb4 (by omega))
  have HF34 := hide (HF3.out.below hb4 (by omega))
  have HN4 := hide hn4
  have HR4 := hide hr4
  have HA4 := hide halt4
  have hs4 := hb4.size
  clear hn4 hr4 hb4 halt4 HF2b HF3
  go_upto_region 4 with fail
  obtain ⟨w5, hw5⟩ : ∃ w5, w5 = w4.alloc (.cells #[.slice An4 ns4.length cn4, .slice Ar4 rs4.length cr4, .int .i64 cnt4] 50) := ⟨_, rfl⟩
  have hb5 : Below w4.heap.size w4 w5 := by rw [hw5]; exact (Below.refl _ _).alloc (Nat.le_refl _) _
  have HC5 : Hid (Blk w5 w4.heap.size 50 #[.slice An4 ns4.length cn4, .slice Ar4 rs4.length cr4, .int .i64 cnt4]) := by rw [hw5]; exact Blk.new _ _ _
  have hs5 : w4.heap.size < w5.heap.size := by rw [hw5]; simp
  rw [← hw5]
  clear hw5
  have HB5 := hide (HB4.out.trans (hb5.mono (by omega)))
  have HF25 := hide (HF24.out.below hb5 (by omega))
  have HF35 := hide (HF34.out.below hb5 (by omega))
  have HN5 := hide (HN4.out.below hb5 (Nat.le_refl _))
  have HR5 := hide (HR4.out.below hb5 (Nat.le_refl _))
  clear hb5 HF24 HF34 HN4 HR4
  have hcap5 : CapOk w5 A n := by
    intro i hi g off Ab m cb ha hcell
    subst ha
    obtain ⟨g', off', f', Af', cf', e', hg', _, _, hd1, _⟩ := HL.out.atC hi
    injection e' with e'
    injection e' with e1 e2
    subst e1 e2
    have h5 := HB5.out.cell (p := ⟨g, off + i * 2 + 1, none⟩) hg'
    rw [h5] at hcell
    exact HCap.out i hi g off Ab m cb rfl hcell
  go_wp2_with fail
  with_reducible refine (refRead29_any A n c l _ (by exact (HL.out.below HB5.out (Nat.le_refl _)).more (by omega)) hlc hcm (by omega) hcap5).mono ?_
  rintro e w6 ⟨An6, cn6, ns6, Ar6, cr6, rs6, cnt6, en6, rfl, hn6, hr6, hb6, halt6⟩
  obtain ⟨e1, e2, e3, e4⟩ := rd_same HA4.out halt6
  subst e1 e2 e3 e4
  have HB6 := hide (HB5.out.trans (hb6.mono (by omega)))
  have HF26 := hide (HF25.out.below hb6 (by omega))
  have HF36 := hide (HF35.out.below hb6 (by omega))
  have HN46 := hide ((HN5.out.below hb6 (by omega)).more (show w4.heap.size ≤ w6.heap.size by have := hb6.size; omega))
  have HR46 := hide ((HR5.out.below hb6 (by omega)).more (show w4.heap.size ≤ w6.heap.size by have := hb6.size; omega))
  have HC6 := hide (HC5.out.below hb6 hs5)
  have HN6 := hide hn6
  have HR6 := hide hr6
  have hs6 := hb6.size
  obtain ⟨hbd1, hbd2⟩ := rd_bounds halt6
  clear hcap5 hn6 hr6 hb6 halt6 HA4 HF25 HF35 HN5 HR5 HC5
  go_upto_region 5 with fail
  obtain ⟨w7, hw7⟩ : ∃ w7, w7 = w6.alloc (.cells #[.slice An6 ns6.length cn6, .slice Ar6 rs6.length cr6, .int .i64 cnt6] 50) := ⟨_, rfl⟩
  have hb7 : Below w6.heap.size w6 w7 := by rw [hw7]; exact (Below.refl _ _).alloc (Nat.le_refl _) _
  have HD7 : Hid (Blk w7 w6.heap.size 50 #[.slice An6 ns6.length cn6, .slice Ar6 rs6.length cr6, .int .i64 cnt6]) := by rw [hw7]; exact Blk.new _ _ _
  rw [← hw7]
  clear hw7
  have HB7 := hide (HB6.out.trans (hb7.mono (by omega)))
  have HC7 := hide (HC6.out.below hb7 (by omega))
  have HF27 := hide (HF26.out.below hb7 (by omega))
  have HF37 := hide (HF36.out.below hb7 (by omega))
  have HN47 := hide ((HN46.out.below hb7 (Nat.le_refl _)).more hb7.size)
  have HR47 := hide ((HR46.out.below hb7 (Nat.le_refl _)).more hb7.size)
  have HN67 := hide ((HN6.out.below hb7 (Nat.le_refl _)).more hb7.size)
  have HR67 := hide ((HR6.out.below hb7 (Nat.le_refl _)).more hb7.size)
  have hs7 := hb7.size
  have hl7 := HD7.out.lt
  have hnl6 : ns6.length ≤ 9223372036854775807 := by omega
  have hrl6 : rs6.length ≤ 9223372036854775807 := by have := HL.out.1; omega
  clear hb7 HB6 HF26 HF36 HN46 HR46 HC6 HN6 HR6
  have t1 : ((en : Int) != (en : Int)) = false := by simp
  have t2 : (en6 != en6) = false := by simp
  go_wp2_with fail
  with_reducible refine (sameFrames_any A2 A3 fl.length c2 fl.length c3 fl fl _ w7.heap.size w7.heap.size (by exact HF27.out.rd rfl HFl.out) (by exact HF37.out.rd rfl HFl.out) (by omega)).mono ?_
  rintro e w8' ⟨rfl, q8, hq8⟩
  rw [show decide (fl = fl) = true by simp]
  obtain ⟨w8, hw8⟩ : ∃ w8, w8 = w8' := ⟨_, rfl⟩
  subst hw8
  have HB8 := hide (Below.drewE HB7.out hq8)
  have HC8 := hide (HC7.out.drewE hq8)
  have HD8 := hide (HD7.out.drewE hq8)
  have hs8 : w8.heap.size = w7.heap.size := by rw [hq8]; rfl
  have HN48 : Hid (Rt w8 w8.heap.size An4 ns6.length ns6) := by show Rt _ _ _ _ _; rw [hs8]; exact HN47.out.keep fun p _ => by rw [hq8]; rfl
  have HR48 : Hid (Rrs w8 w8.heap.size Ar4 rs6.length rs6) := by show Rrs _ _ _ _ _; rw [hs8]; exact HR47.out.drewE hq8
  have HN68 : Hid (Rt w8 w8.heap.size An6 ns6.length ns6) := by show Rt _ _ _ _ _; rw [hs8]; exact HN67.out.keep fun p _ => by rw [hq8]; rfl
  have HR68 : Hid (Rrs w8 w8.heap.size Ar6 rs6.length rs6) := by show Rrs _ _ _ _ _; rw [hs8]; exact HR67.out.drewE hq8
  have hsz8 := HB8.out.size
  clear hq8 hs8 HB7 HC7 HD7 HF27 HF37 HN47 HR47 HN67 HR67 HFl HX t1 t2
  have b0 := HC8.out.cell 0
  have b1 := HC8.out.cell 1
  have b2 := HC8.out.cell 2
  have d0 := HD8.out.cell 0
  have d1 := HD8.out.cell 1
  have d2 := HD8.out.cell 2
  simp at b0 b1 b2 d0 d1 d2
  go_wp2_with fail
  with_reducible refine (sameAnswer_yes An4 ns6.length cn4 ns6 Ar4 rs6.length cr4 rs6 An6 cn6 Ar6 cr6 cnt6 _ HN48.out HR48.out HN68.out HR68.out hnl6 hrl6).mono ?_
  rintro e w9 ⟨rfl, hb9⟩
  have HB9 := hide (HB8.out.trans (hb9.mono hsz8))
  clear hb9 HB8 HC8 HD8 HN48 HR48 HN68 HR68 b0 b1 b2 d0 d1 d2
  go_wp2_with fail
  go_loopg [15] n (fun gg i wr => ∃ k : Nat, k ≤ n ∧ gg = n - k ∧ i = .int .i64 (k : Nat) ∧ Below w.heap.size w wr)
  case atStart => exact ⟨0, Nat.zero_le _, rfl, rfl, HB9.out⟩
  case round =>
    obtain ⟨k, hk, rfl, rfl, hbel⟩ := hrel
    obtain ⟨w10, hw10⟩ : ∃ w10, w10 = wr := ⟨_, rfl⟩
    subst hw10
    have HB10 := hide hbel
    have hsz10 := hbel.size
    clear hbel HB9
    by_cases hlt : k < n
    · obtain ⟨g, off, f, Af, cf, rfl, hg, hf, hd0, hd1, hfr, hfm, hfc, hfx⟩ := HL.out.atC hlt
      have HFr := hide hfr
      have HD0 := hide hd0
      have HD1 := hide hd1
      clear hf hfr hd0 hd1
      have hkn : (k : Int) < (n : Int) := by omega
      have x0 := (HB10.out.cell (p := ⟨g, off + k * 2, none⟩) hg).trans HD0.out
      have x1 := (HB10.out.cell (p := ⟨g, off + k * 2 + 1, none⟩) hg).trans HD1.out
      go_wp2_with fail
      with_reducible refine (put_any f.1 Af f.2.length cf f.2 _ (by exact (HFr.out.below HB10.out (Nat.le_refl _)).more hsz10) hfm).mono ?_
      intro e w11 hpost
      obtain ⟨A11, c11, rfl, hown11, hb11, _, _⟩ := hpost.is (n := (Wire.putR f.1 f.2).1) (l := (Wire.putR f.1 f.2).2) rfl
      have HB11 := hide (HB10.out.trans (hb11.mono hsz10))
      have hsz11 := HB11.out.size
      obtain ⟨pn, hpn⟩ : ∃ pn, pn = (Wire.putR f.1 f.2).1 := ⟨_, rfl⟩
      obtain ⟨pl, hpl⟩ : ∃ pl, pl = (Wire.putR f.1 f.2).2 := ⟨_, rfl⟩
      rw [← hpl] at hown11
      rw [← hpn, ← hpl]
      have HO11 := hide hown11
      have HPN := hide hpn
      have HPL := hide hpl
      clear x0 x1 hpost hown11 hb11 hpn hpl
      have x0 := (HB11.out.cell (p := ⟨g, off + k * 2, none⟩) hg).trans HD0.out
      have x1 := (HB11.out.cell (p := ⟨g, off + k * 2 + 1, none⟩) hg).trans HD1.out
      go_wp2_with fail
      with_reducible refine (refPut_any f.1 Af f.2.length cf f.2 _ (by exact (HFr.out.below HB11.out (Nat.le_refl _)).more hsz11) hfm).mono ?_
      intro e w12 hpost
      obtain ⟨A12, c12, rfl, hown12, hb12, _, _⟩ := hpost.is (n := (Wire.putR f.1 f.2).1) (l := (Wire.putR f.1 f.2).2) rfl
      have HB12 := hide (HB11.out.trans (hb12.mono hsz11))
      have hsz12 := HB12.out.size
      rw [← HPL.out] at hown12
      rw [← HPN.out, ← HPL.out]
      have HO12 := hide hown12
      have HO11b := hide (own_below HO11.out hb12)
      clear x0 x1 hpost hown12 hb12 HO11 HPN
      have hpll : pl.length ≤ 140737488355328 := by rw [HPL.out]; exact Nat.le_trans (putR_len _ _) (by decide)
      have x0 := (HB12.out.cell (p := ⟨g, off + k * 2, none⟩) hg).trans HD0.out
      have x1 := (HB12.out.cell (p := ⟨g, off + k * 2 + 1, none⟩) hg).trans HD1.out
      by_cases h8 : f.1 = 8 ∧ f.2.length = 2
      · have y0t : ((f.1.toNat : Int) == 8) = true := by rw [h8.1]; rfl
        have y1t : ((f.2.length : Int) == 2) = true := by simp; omega
        have hlen2 : (0 : Int) < (f.2.length : Int) := by omega
        have hlen3 : (1 : Int) < (f.2.length : Int) := by omega
        have h20 : 0 < f.2.length := by omega
        have h21 : 1 < f.2.length := by omega
        have HFr12 := hide ((HFr.out.below HB12.out (Nat.le_refl _)).more hsz12)
        have H8 := hide h8
        clear h8
        go_wp2_with fail
        with_reducible refine (errno_yes f Af cf _ _ HFr12.out (Nat.le_refl _) H8.out).mono ?_
        rintro e w13 ⟨rfl, hb13⟩
        have HB13 := hide (HB12.out.trans (hb13.mono hsz12))
        have hsz13 := HB13.out.size
        have HO13 := hide (own_below HO12.out hb13)
        have HQ13 := hide (own_below HO11b.out hb13)
        have HFr13 := hide (HFr12.out.below hb13 (Nat.le_refl _))
        clear x0 x1 hb13 HO12 HO11b HFr12
        have x0 := (HB13.out.cell (p := ⟨g, off + k * 2, none⟩) hg).trans HD0.out
        have x1 := (HB13.out.cell (p := ⟨g, off + k * 2 + 1, none⟩) hg).trans HD1.out
        obtain ⟨bb, bo, rfl, hbb, hall⟩ := HFr13.out.all (by omega)
        clear hall
        obtain ⟨z0, e0, c0⟩ := HFr13.out.atS (show 0 < f.2.length by omega)
        obtain ⟨z1, e1, c1⟩ := HFr13.out.atS (show 1 < f.2.length by omega)
        rw [Nat.add_zero] at c0
        rw [e0, e1]
        have q0 := z0.toNat_lt
        have q1 := z1.toNat_lt
        clear e0 e1
        go_wp2_with fail
        go_quiet (fail)
        obtain ⟨w14, hw14⟩ : ∃ w14, w14 = w13.drewN nq := ⟨_, rfl⟩
        have HB14 : Hid (Below w.heap.size w w14) := Below.drewE HB13.out hw14
        have HO14 : Hid (w14.ownsRow w11.heap.size 5 1 (.slice A12 pl.length c12) pl.length (pl.map B8)) := by rw [hw14]; exact own_agree HO13.out fun _ _ => rfl
        have HQ14 : Hid (w14.ownsRow w10.heap.size 5 1 (.slice A11 pl.length c11) pl.length (pl.map B8)) := by rw [hw14]; exact own_agree HQ13.out fun _ _ => rfl
        rw [← hw14]
        clear hw14 c0 c1 x0 x1 HO13 HQ13 HFr13
        have p1 : ((pn : Int) != (pn : Int)) = false := by simp
        go_wp2_with fail
        with_reducible refine (sameBytes_any A11 A12 pl.length c11 pl.length c12 pl pl _ _ _ (by exact Rb.own HQ14.out) (by exact Rb.own HO14.out) (by unfold maxLen; omega)).mono ?_
        rintro e w15 ⟨rfl, q15, hq15⟩
        rw [show (pl == pl) = true by simp]
        have HB15 := hide (Below.drewE HB14.out hq15)
        clear hq15 p1
        go_wp2_with fail
        go_roundg (n - (k + 1))
        case measure => omega
        case rel => exact ⟨k + 1, by omega, rfl, by go_num, HB15.out⟩
      · have H8 := hide h8
        clear h8
        go_wp2_with fail
        with_reducible refine (errno_no f Af cf _ H8.out).mono ?_
        rintro e w13 ⟨rfl, hb13⟩
        have HB13 := hide (HB12.out.trans (hb13.mono hsz12))
        have hsz13 := HB13.out.size
        have HO13 := hide (own_below HO12.out hb13)
        have HQ13 := hide (own_below HO11b.out hb13)
        clear x0 x1 hb13 HO12 HO11b
        have x0 := (HB13.out.cell (p := ⟨g, off + k * 2, none⟩) hg).trans HD0.out
        have x1 := (HB13.out.cell (p := ⟨g, off + k * 2 + 1, none⟩) hg).trans HD1.out
        go_upto_region 13 with fail
        go_cut [22] (fun b wx => b = .bool false ∧ wx = w13)
        case first =>
          by_cases h1 : f.1 = 8
          · have y0t : ((f.1.toNat : Int) == 8) = true := by rw [h1]; rfl
            have y1t : ((f.2.length : Int) == 2) = false := by
              have : ¬ f.2.length = 2 := fun e => H8.out ⟨h1, e⟩
              simp
              omega
            clear h1
            go_wp2_with fail
            go_meet
            exact ⟨rfl, rfl⟩
          · have y0t : ((f.1.toNat : Int) == 8) = false := (kind_is f 8).trans (decide_eq_false h1)
            clear h1
            go_wp2_with fail
            go_meet
            exact ⟨rfl, rfl⟩
        case rest =>
          obtain ⟨rfl, hwc⟩ := hcut
          obtain ⟨w14, hw14⟩ : ∃ w14, w14 = wc := ⟨_, rfl⟩
          subst hw14
          rw [← hwc] at HB13 HO13 HQ13 hsz13
          clear hwc x0 x1
          have p1 : ((pn : Int) != (pn : Int)) = false := by simp
          go_wp2_with fail
          with_reducible refine (sameBytes_any A11 A12 pl.length c11 pl.length c12 pl pl _ _ _ (by exact Rb.own HQ13.out) (by exact Rb.own HO13.out) (by unfold maxLen; omega)).mono ?_
          rintro e w15 ⟨rfl, q15, hq15⟩
          rw [show (pl == pl) = true by simp]
          have HB15 := hide (Below.drewE HB13.out hq15)
          clear hq15 p1
          go_wp2_with fail
          go_roundg (n - (k + 1))
          case measure => omega
          case rel => exact ⟨k + 1, by omega, rfl, by go_num, HB15.out⟩
    · go_wp2_with fail
      with_reducible refine (error_any x _).mono ?_
      rintro e w11 ⟨hi, lo, rfl, hrb11, hb11, hsum⟩
      have HB11 := hide (HB10.out.trans (hb11.mono hsz10))
      have HRb := hide hrb11
      have hsz11 := HB11.out.size
      have hS := hide hsum
      clear hrb11 hb11 hsum
      go_wp2_with fail
      with_reducible refine (errno_ok _ 2 [hi, lo] _ _ HRb.out (Nat.le_refl _)).mono ?_
      rintro e w12 ⟨rfl, hb12⟩
      have HB12 := hide (HB11.out.trans (hb12.mono hsz11))
      have hsz12 := HB12.out.size
      clear hb12
      rw [show (([hi, lo] : List UInt8).getD 0 0) = hi from rfl, show (([hi, lo] : List UInt8).getD 1 0) = lo from rfl, hS.out]
      obtain ⟨v, hv⟩ : ∃ v : Int, v = x % 65536 := ⟨_, rfl⟩
      have hv0 : 0 ≤ v := by omega
      have hv1 : v < 65536 := by omega
      have hw1' : IntKind.u16.wrap x = v := by
        have : IntKind.u16.wrap x = x % 65536 := by simp [IntKind.wrap, IntKind.signed, IntKind.bits]
        rw [this, hv]
      have hw2' : IntKind.u16.wrap v = v := by
        have : IntKind.u16.wrap v = v % 65536 := by simp [IntKind.wrap, IntKind.signed, IntKind.bits]
        rw [this]
        omega
      rw [← hv]
      clear hv hS
      go_wp2_with fail
      with_reducible refine (awake_any _).mono ?_
      rintro e w13 ⟨rfl, hb13⟩
      have HB13 := hide (HB12.out.trans (hb13.mono hsz12))
      clear hb13
      go_wp2_with fail
      go_ret
      exact ⟨rfl, HB13.out⟩
end Go.Proofs.Ytnieenlnpnaamaa
