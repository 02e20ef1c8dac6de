/-
  The walk of WireFeeds: for every list of chunks and every place it answers true. Conditions: no chunk takes more than 2^20 bytes.
-/
import Derived.Test.YtnieenlnpnaamaaFeedsMem
import Derived.Test.YtnieenlnpnaamaaOpenC
import Derived.Deep.LoopGhost
import Derived.Deep.DeepCutAuto
import Derived.Deep.RegionWith
import Derived.Deep.RegionHeld3
namespace Go.Proofs.Ytnieenlnpnaamaa
open Go.RowKit

/-- The reader, its copy of what is left beside it, at the head of a round. -/
def FS (w0 wr : World) (r lf br : Value) : Prop :=
  ∃ (R base : Nat) (v : Value) (Al : Option Addr) (cl : Nat) (x : List UInt8) (b : Bool), r = .pointer (some ⟨R, 0, none⟩) ∧ lf = .slice Al x.length cl ∧ br = .bool b ∧ x.length ≤ 8195 ∧ (b = true → x = []) ∧ w0.heap.size ≤ R ∧ w0.heap.size ≤ base ∧ base ≤ wr.heap.size ∧ Rdr wr R base v x b ∧ Rb wr wr.heap.size Al x.length x ∧ Apart Al v ∧ (∀ a, Al = some a → a.block < wr.heap.size) ∧ Below w0.heap.size w0 wr
/-- The reader that is fed, behind the place where it may have been copied. -/
def FC (w0 wr wx : World) (r : Value) (Al : Option Addr) (x y : List UInt8) (b : Bool) (g nk cap : Nat) : Prop :=
  ∃ (R base : Nat) (v : Value), r = .pointer (some ⟨R, 0, none⟩) ∧ w0.heap.size ≤ R ∧ w0.heap.size ≤ base ∧ base ≤ wx.heap.size ∧ Rdr wx R base v x b ∧ Rb wx wr.heap.size Al x.length x ∧ Apart Al v ∧
    wx.ownsRow wr.heap.size 5 1 (.slice (some ⟨g, 0, none⟩) (nk + 2) cap) (nk + 2) ((y ++ [77, 78]).map B8) ∧ g ≠ R ∧ v.ownBlock ≠ some g ∧ Below w0.heap.size w0 wx ∧ wr.heap.size ≤ wx.heap.size ∧ wr.heap.size ≤ g ∧ g < wx.heap.size
/-- What the reference tells. -/
def FW (wl wx : World) (a b c : Value) (X : List Fr × List UInt8 × Bool) : Prop :=
  ∃ Aw cw Ar cr, a = .slice Aw X.1.length cw ∧ b = .slice Ar X.2.1.length cr ∧ c = .bool X.2.2 ∧ FrRd wx wx.heap.size Aw X.1.length X.1 ∧ Rb wx wx.heap.size Ar X.2.1.length X.2.1 ∧ (∀ p, Ar = some p → wl.heap.size ≤ p.block ∧ p.block < wx.heap.size) ∧ Below wl.heap.size wl wx

set_option linter.unusedVariables false in
set_option maxRecDepth 100000 in
set_option maxHeartbeats 1600000 in
theorem feeds_walk (A : Option Addr) (n c : Nat) (L : List (List UInt8)) (z : Int) (w : World) (hl : Chs w 1048576 A n L) (hlc : n ≤ c) (hcm : c ≤ maxLen) (hwz : (Lit.int .i64 z).wf = true) :
    Calls Try.prog 4 #[.slice A n c, .int .i64 z] w fun e w' => e = .returned (.bool true) ∧ Below w.heap.size w w' := by
  unfold maxLen at hcm
  have HL := hide hl
  clear hl hwz
  go_enter Try.func4, Try.ntmps4
  go_wp2_with fail
  with_reducible refine (new_any _).mono ?_
  intro e w1 hpost
  obtain ⟨rfl, hw1⟩ := hpost
  have HS : Hid (FS w w1 (.pointer (some ⟨w.heap.size, 0, none⟩)) (.slice none 0 0) (.bool false)) := ⟨w.heap.size, w.heap.size, .slice none 0 0, none, 0, [], false, rfl, rfl, rfl, by simp, fun h => (by cases h), Nat.le_refl _, Nat.le_refl _, by rw [hw1]; simp, ⟨by rw [hw1]; exact Blk.new _ _ _, own_nil _ _ _ _⟩, Rb.nil, fun a h => (by cases h), fun a h => (by cases h), by rw [hw1]; exact (Below.refl _ _).alloc (Nat.le_refl _) _⟩
  clear hw1
  have hne1 := fun w' => eql_ptr_nil ⟨w.heap.size, 0, none⟩ w'
  go_wp2_with fail
  go_loopg [5, 6, 7, 8] 200 (fun gg r lf br i wr => ∃ k : Nat, k ≤ n ∧ k ≤ 200 ∧ gg = 200 - k ∧ i = .int .i64 (k : Nat) ∧ FS w wr r lf br)
  case atStart => exact ⟨0, Nat.zero_le _, Nat.zero_le _, rfl, rfl, HS.out⟩
  case round =>
    obtain ⟨k, hk, hk2, rfl, rfl, R, base, v, Al, cl, x, b, rfl, rfl, rfl, hx, hbx, hR0, hb0, hb1, hrd, hrb, hap, hal, hbel⟩ := hrel
    obtain ⟨wh, hwh⟩ : ∃ wh, wh = wr := ⟨_, rfl⟩
    subst hwh
    have HR := hide hrd
    have HB := hide hbel
    have HX := hide hrb
    have HA := hide hap
    have HBX := hide hbx
    have HAL := hide hal
    have hsz := hbel.size
    clear hrd hbel hrb hap hbx hal
    by_cases hgo : k < n ∧ k < 200
    · obtain ⟨hg1, hg2⟩ := hgo
      obtain ⟨bb, off, Ak, nk, ck, rfl, hbb, hcell, hyr, hnk, hckm, hck⟩ := HL.out.2 k hg1
      obtain ⟨y, hy⟩ : ∃ y, y = L.getD k [] := ⟨_, rfl⟩
      rw [← hy] at hyr
      clear hy
      have HC := hide hcell
      have HY := hide hyr
      clear hcell hyr
      have c0 := HB.out.cell (p := ⟨bb, off + k, none⟩) hbb
      rw [HC.out] at c0
      go_wp2_with fail
      with_reducible refine (lentBytes_any Ak nk ck y _ (by exact (HY.out.below HB.out (Nat.le_refl _)).more hsz) (by omega)).mono ?_
      rintro e w2 ⟨g, cap, rfl, hown2, hb2⟩
      have HO2 := hide hown2
      have HB2 := hide hb2
      have HB02 := hide (HB.out.trans (hb2.mono hsz))
      have hs2 := hb2.size
      obtain ⟨g', cap', hgv, hg3, hg4, hca, hcb⟩ := own_pos hown2 (by omega)
      injection hgv with e1 _ e3
      injection e1 with e1
      injection e1 with e1
      subst e1 e3
      have hRs := HR.out.1.lt
      clear hown2 hb2 c0
      go_upto_if 39 with fail
      go_cut [5] (fun r wx => FC w wh wx r Al x y b g nk cap)
      case first =>
        by_cases hz : (k : Int) = z
        · have t0 : ((k : Int) == z) = true := by simpa using hz
          clear hz
          go_wp2_with fail
          with_reducible refine (copy_ok R base v x b _ (HR.out.below HB2.out) (by omega)).mono ?_
          rintro e w3 ⟨v3, rfl, hr3, hb3⟩
          have HR3 := hide hr3
          have HB3 := hide hb3
          have hs3 := hb3.size
          have hR3s := hr3.1.lt
          clear hr3 hb3
          have hne2 := fun w' => eql_ptr_nil ⟨w2.heap.size, 0, none⟩ w'
          have HL3 : Hid (Rb (w3.alloc (.cells #[.int .u8 0, .int .u8 0, .int .u8 0, .int .u8 1, .int .u8 9, .int .u8 1, .int .u8 2] 5)) (w3.alloc (.cells #[.int .u8 0, .int .u8 0, .int .u8 0, .int .u8 1, .int .u8 9, .int .u8 1, .int .u8 2] 5)).heap.size (some ⟨w3.heap.size, 0, none⟩) 7 [0, 0, 0, 1, 9, 1, 2]) := Rb.lit w3 5 [0, 0, 0, 1, 9, 1, 2]
          go_wp2_with fail
          with_reducible refine (feed_made R base v x b _ 7 7 [0, 0, 0, 1, 9, 1, 2] _ (by exact ((HR.out.below HB2.out).below HB3.out).alloc _) (by exact HL3.out) (by omega) (by simp; omega)).mono ?_
          rintro e w4 ⟨vo4, v4, m4, rfl, hm41, hm42, hfr4, hr4, ht4⟩
          have HT4 := hide ht4
          have hs4 := ht4.2.2.2.1
          rw [World.size_alloc] at hs4
          clear hfr4 hr4 ht4
          obtain ⟨E, hE⟩ : ∃ E : Int, E = (if (Wire.feed (x, b) [0, 0, 0, 1, 9, 1, 2]).2.2 = true then 390 else 0) := ⟨_, rfl⟩
          rw [← hE]
          clear hE
          go_wp2_with fail
          go_meet
          have hRR : (HR.out.below HB2.out).below HB3.out = (HR.out.below HB2.out).below HB3.out := rfl
          have hvlt : ∀ q, v.ownBlock = some q → q < wh.heap.size := fun q hq => (HR.out.2.lt q hq).2
          have hval : ∀ q, v.ownBlock = some q → base ≤ q := fun q hq => (HR.out.2.lt q hq).1
          refine ⟨w2.heap.size, w2.heap.size, v3, rfl, by omega, by omega, by omega, ⟨?_, ?_⟩, ?_, ?_, ?_, by omega, ?_, ?_, by omega, by omega, by omega⟩
          · exact (HT4.out.2.2.2.2 _ (by rw [World.size_alloc]; omega) (by omega) (fun e => by have := hvlt _ e; omega)).trans ((HR3.out.1.alloc _))
          · exact own_agree (HR3.out.2.alloc _) fun q hq => HT4.out.2.2.2.2 q (by rw [World.size_alloc]; have := (HR3.out.2.lt q hq).2; omega) (by have := (HR3.out.2.lt q hq).1; omega) (fun e => by have := hvlt _ e; have := (HR3.out.2.lt q hq).1; omega)
          · exact (((HX.out.below HB2.out (Nat.le_refl _)).below HB3.out hs2).keep (w' := w3.alloc _) fun p hp => World.cell?_alloc_lt w3 _ p (by omega)).turned (by rw [World.size_alloc]; omega) (((HR.out.below HB2.out).below HB3.out).alloc _) HT4.out HA.out
          · intro a ha e
            have h1 := (HR3.out.2.lt _ e).1
            have := HAL.out a ha
            omega
          · exact own_agree ((own_below HO2.out HB3.out).alloc _) fun q hq => by
              simp [Value.ownBlock] at hq
              subst hq
              exact HT4.out.2.2.2.2 _ (by rw [World.size_alloc]; omega) (by omega) (fun e => by have := hvlt _ e; omega)
          · intro e
            have := (HR3.out.2.lt _ e).1
            omega
          · exact ((HB02.out.trans (HB3.out.mono (by omega))).alloc (by omega) _).trans (HT4.out.below (by rw [World.size_alloc]; omega) hR0 (fun q hq => by have := hval q hq; omega))
        · have t0 : ((k : Int) == z) = false := by simpa using hz
          clear hz
          go_wp2_with fail
          go_meet
          exact ⟨R, base, v, rfl, hR0, hb0, by omega, HR.out.below HB2.out, HX.out.below HB2.out (Nat.le_refl _), HA.out, HO2.out, by omega, fun e => (by have := (HR.out.2.lt _ e).2; omega), HB02.out, hs2, hg3, hg4⟩
      case rest =>
        obtain ⟨R', base', v', rfl, hR0', hb0', hb1', hrd', hrb', hap', hown', hgR, hgv, hbel', hsx, hsg, hgx⟩ := hcut
        have HR' := hide hrd'
        have HX' := hide hrb'
        have HA' := hide hap'
        have HO' := hide hown'
        have HB' := hide hbel'
        have HGV := hide hgv
        clear hrd' hrb' hap' hown' hbel' hgv HR HB HX HA HO2 HB2 HB02
        obtain ⟨wx, hwx⟩ : ∃ wx, wx = wc := ⟨_, rfl⟩
        subst hwx
        have hIn := fun (wq : World) (h : wq.ownsRow wh.heap.size 5 1 (.slice (some ⟨g, 0, none⟩) (nk + 2) cap) (nk + 2) ((y ++ [77, 78]).map B8)) => own_take h (show nk ≤ nk + 2 by omega)
        rw [List.take_left' HY.out.len] at hIn
        have HIn := hide hIn
        clear hIn
        have hRx := HR'.out.1.lt
        cases b with
        | true =>
          obtain rfl : x = [] := HBX.out rfl
          have hc0 := HB'.out.cell (p := ⟨bb, off + k, none⟩) hbb
          rw [HC.out] at hc0
          go_wp2_with fail
          with_reducible refine (feed_broken R' base' v' [] _ nk cap _ HR'.out).mono ?_
          rintro e w6 ⟨rfl, rfl⟩
          go_wp2_with fail
          with_reducible refine (keptBytes_any g cap wh.heap.size Ak nk nk ck y _ w.heap.size HO'.out (HY.out.below HB'.out (Nat.le_refl _)) (by omega)).mono ?_
          rintro e w7 ⟨rfl, q, rfl⟩
          clear hc0
          go_wp2_with fail
          go_loopw [13] (fun i wl => ∃ j : Nat, j ≤ nk ∧ i = .int .i64 (j : Nat) ∧ Spot wl g (g + 1) 5 (.slice (some ⟨g, 0, none⟩) nk cap) nk ∧ Out g (g + 1) (wx.drewN q) wl) (fun i _ => nk - (intOf i).toNat)
          case atStart => exact ⟨0, Nat.zero_le _, rfl, Spot.of_in (own_agree (HIn.out _ HO'.out) (fun _ _ => rfl)), Out.refl _ _ _⟩
          case round =>
            obtain ⟨j, hj, rfl, hsp, hout⟩ := hrel
            obtain ⟨wl, hwl⟩ : ∃ wl, wl = wr := ⟨_, rfl⟩
            subst hwl
            have HSP := hide hsp
            have HOU := hide hout
            clear hsp hout
            by_cases hjl : j < nk
            · obtain ⟨g', c', u, hv, h1, h2, hc, hf⟩ := HSP.out.at hjl
              injection hv with e1 _ e3
              injection e1 with e1
              injection e1 with e1
              subst e1 e3
              go_wp2_with fail
              go_roundw
              case rel => exact ⟨j + 1, by omega, by go_num, HSP.out.put g j _, HOU.out.put (Nat.le_refl _) (Nat.lt_succ_self _) _⟩
              case measure => simp [intOf]; omega
            · have HRl : Hid (Rdr wl R' base' v' [] true) := (HR'.out.drewN q).out HOU.out (by omega) (fun e he => by
                have : e ≠ g := fun h => HGV.out (h ▸ he)
                omega)
              have HBl := hide ((below_drewN HB'.out q).trans (HOU.out.below (B := w.heap.size) (by omega)))
              have hsl : wl.heap.size = wx.heap.size := HOU.out.size
              go_wp2_with fail
              with_reducible refine (left_ok R' base' v' [] true _ HRl.out).mono ?_
              rintro e w8 ⟨rfl, rfl⟩
              go_wp2_with fail
              go_roundg (200 - (k + 1))
              case measure => omega
              case rel => exact ⟨k + 1, by omega, by omega, rfl, by go_num, R', base', v', Al, cl, [], true, rfl, rfl, rfl, hx, fun _ => rfl, hR0', hb0', by omega, HRl.out, Rb.nil, HA'.out, fun a ha => by have := HAL.out a ha; omega, HBl.out⟩
        | false =>
          obtain ⟨X, hX⟩ : ∃ X, X = Wire.cut (x ++ y) := ⟨_, rfl⟩
          have hyl := HY.out.len
          have hX1 := Wire.cut_left_len (x ++ y).length (x ++ y) (Nat.le_refl _)
          have hX2 := Wire.cut_broken (x ++ y).length (x ++ y) (Nat.le_refl _)
          have hX3 := Wire.cut_bodies (x ++ y).length (x ++ y) (Nat.le_refl _)
          rw [← hX] at hX1 hX2 hX3
          rw [List.length_append, hyl] at hX1
          have hXl : X.2.1.length ≤ 8195 := by omega
          have hXf : X.1.length ≤ 1048576 := by omega
          have HXX := hide hX
          have HX2 := hide hX2
          have HX3 := hide hX3
          clear hX hX1 hX2 hX3 hyl
          have hc0 := HB'.out.cell (p := ⟨bb, off + k, none⟩) hbb
          rw [HC.out] at hc0
          go_wp2_with fail
          with_reducible refine (feed_ok R' base' v' x (some ⟨g, 0, none⟩) nk cap y _ HR'.out (Rb.own (HIn.out _ HO'.out)) (by omega) hb1').mono ?_
          rintro e w6 ⟨vo, v6, mid0, rfl, hm0, hfr, hr6, ht6⟩
          rw [← HXX.out] at hfr hr6 ⊢
          obtain ⟨Ao, co, rfl⟩ := hfr.form
          have hs6 := ht6.2.2.2.1
          obtain ⟨mid, hmid⟩ : ∃ mid, mid = min mid0 w6.heap.size := ⟨_, rfl⟩
          have hfr' : FrOwn w6 wx.heap.size mid (.slice Ao X.1.length co) X.1 := by rw [hmid]; exact hfr.cap
          have hr6' : Rdr w6 R' mid v6 X.2.1 X.2.2 := hr6.low (by omega)
          have hm1 : wx.heap.size ≤ mid := by omega
          have hm2 : mid ≤ w6.heap.size := by omega
          have hvv : ∀ q, v'.ownBlock = some q → base' ≤ q := fun q hq => (HR'.out.2.lt q hq).1
          have HF6 := hide hfr'
          have HR6 := hide hr6'
          have HB6 := hide (HB'.out.trans (ht6.below (B := w.heap.size) (by omega) hR0' (fun q hq => by have := hvv q hq; omega)))
          have HX6 := hide (HX'.out.turned hsx HR'.out ht6 HA'.out)
          have HO6 := hide (own_agree HO'.out (fun q hq => ht6.2.2.2.2 q (HO'.out.lt q hq).2 (by simp [Value.ownBlock] at hq; omega) (fun e => by simp [Value.ownBlock] at hq; subst hq; exact HGV.out e)))
          clear hmid hfr hr6 hfr' hr6' ht6 hvv hc0
          obtain ⟨E, hE⟩ : ∃ E : Int, E = (if X.2.2 = true then 390 else 0) := ⟨_, rfl⟩
          rw [← hE]
          have HE := hide hE
          clear hE
          have hc6 := HB6.out.cell (p := ⟨bb, off + k, none⟩) hbb
          rw [HC.out] at hc6
          go_wp2_with fail
          with_reducible refine (keptBytes_any g cap wh.heap.size Ak nk nk ck y _ w.heap.size HO6.out (HY.out.below HB6.out (Nat.le_refl _)) (by omega)).mono ?_
          rintro e w7 ⟨rfl, q, rfl⟩
          clear hc6
          go_wp2_with fail
          go_loopw [13] (fun i wl => ∃ j : Nat, j ≤ nk ∧ i = .int .i64 (j : Nat) ∧ Spot wl g (g + 1) 5 (.slice (some ⟨g, 0, none⟩) nk cap) nk ∧ Out g (g + 1) (w6.drewN q) wl) (fun i _ => nk - (intOf i).toNat)
          case atStart => exact ⟨0, Nat.zero_le _, rfl, Spot.of_in (own_agree (HIn.out _ HO6.out) (fun _ _ => rfl)), Out.refl _ _ _⟩
          case round =>
            obtain ⟨j, hj, rfl, hsp, hout⟩ := hrel
            obtain ⟨wl, hwl⟩ : ∃ wl, wl = wr := ⟨_, rfl⟩
            subst hwl
            have HSP := hide hsp
            have HOU := hide hout
            clear hsp hout
            by_cases hjl : j < nk
            · obtain ⟨g', c', u, hv, h1, h2, hc, hf⟩ := HSP.out.at hjl
              injection hv with e1 _ e3
              injection e1 with e1
              injection e1 with e1
              subst e1 e3
              go_wp2_with fail
              go_roundw
              case rel => exact ⟨j + 1, by omega, by go_num, HSP.out.put g j _, HOU.out.put (Nat.le_refl _) (Nat.lt_succ_self _) _⟩
              case measure => simp [intOf]; omega
            · have hv6 : ∀ q, v6.ownBlock = some q → mid ≤ q ∧ q < w6.heap.size := fun q hq => HR6.out.2.lt q hq
              have HRl : Hid (Rdr wl R' mid v6 X.2.1 X.2.2) := (HR6.out.drewN q).out HOU.out (by omega) (fun e he => by have := hv6 e he; omega)
              have HFl : Hid (FrOwn wl wx.heap.size mid (.slice Ao X.1.length co) X.1) := HF6.out.agree (fun k h1 h2 => HOU.out.block k (by omega))
              have HXl : Hid (Rb wl wh.heap.size Al x.length x) := (HX6.out.drewN q).out HOU.out (fun a ha => by have := HAL.out a ha; omega)
              have HBl := hide ((below_drewN HB6.out q).trans (HOU.out.below (B := w.heap.size) (by omega)))
              have hsl : wl.heap.size = w6.heap.size := HOU.out.size
              have HSL := hide hsl
              have HV6 := hide hv6
              have hsl1 : w6.heap.size ≤ wl.heap.size := by omega
              have hRl := HRl.out.1.lt
              clear hsl hv6 HSP HOU HF6 HR6 HX6 HB6 HO6
              go_upto_region 26 with fail
              go_cut [14, 15, 16] (fun a b c wz => FW wl wz a b c X)
              case first =>
                have hbl : bb < wl.heap.size := by omega
                have hcl : wl.cell? ⟨bb, off + k, none⟩ = some (.slice Ak nk ck) := (HBl.out.cell (p := ⟨bb, off + k, none⟩) hbb).trans HC.out
                have HYl : Hid (Rb wl wl.heap.size Ak nk y) := (HY.out.below HBl.out (Nat.le_refl _)).more (by omega)
                have HXl2 := hide (HXl.out.more (show wh.heap.size ≤ wl.heap.size by omega))
                obtain ⟨i8, hi8, h80, h81, h82⟩ := info_parts info8
                have hk0 : (0 : Int) ≤ (k : Int) := by omega
                have hkn : (k : Int) < (n : Int) := by omega
                go_region_held3 (fun w' => w'.cell? ⟨bb, off + k, none⟩ = some (.slice Ak nk ck)) (first | (exact (HB10.out.cell (p := ⟨bb, off + k, none⟩) hbl).trans hcl) | (exact (HB9.out.cell (p := ⟨bb, off + k, none⟩) hbl).trans hcl) | (exact (HB8.out.cell (p := ⟨bb, off + k, none⟩) hbl).trans hcl) | go_keep) ((first | (refine step_append_rd _ rfl (.tmp 85) (.tmp 89) 22 rfl wl.heap.size 5 i8 (.int .u8 0) 1 1 Try.underlying22 hi8 h80 h81 h82 rfl (by omega) (.slice A8 x.length c8) x.length (x.map B8) (by simp [Act.eval]) (by exact own_agree HO8.out fun _ _ => rfl) wl.heap.size Ak nk ck (y.map B8) (by simp [Act.eval]) (by exact HYl.out.keep fun p hp => HB8.out.cell hp) (B8_one y) (by unfold maxLen; omega) (by omega) (by exact HB8.out.size) ?_; intro v9 w9 hown9 hb9 hg9; obtain ⟨A9, c9, rfl, hA9, hc91, hc92⟩ := own_form hown9; have HO9 := hide hown9; have HB9 : Hid (Below wl.heap.size wl w9) := HB8.out.trans ⟨hb9.os, hb9.tape, hb9.output, hb9.size, hb9.block⟩; have HA9 := hide hA9; clear hown9 hb9 hg9 hA9) | (go_at_call 10; refine (copyBytes_any Al x.length cl x _ (by exact HXl2.out.keep fun _ _ => rfl) (by omega)).mono ?_; rintro e w8 ⟨v8, rfl, hown8, hb8⟩; obtain ⟨A8, c8, rfl⟩ := own_sl hown8; have HO8 := hide hown8; have HB8 : Hid (Below wl.heap.size wl w8) := ⟨hb8.os, hb8.tape, hb8.output, hb8.size, hb8.block⟩; clear hown8 hb8) | (go_at_call 18; refine (cut_any A9 (x.length + nk) c9 (x ++ y) _ (by exact Rb.keep (Rb.own (l := x ++ y) (by rw [List.map_append]; exact HO9.out)) (fun _ _ => rfl)) hc91 hc92 (by omega)).mono ?_; rintro e w10 ⟨vo, Ar, cr, rfl, hr1, hr2, hfo, hrr, hb10, hsb⟩; rw [← HXX.out] at hr1 hfo hrr ⊢; obtain ⟨Aw, cw, rfl⟩ := hfo.form; have HFO := hide hfo; have HRR := hide hrr; have HSB := hide hsb; have HB10 : Hid (Below wl.heap.size wl w10) := HB9.out.trans (⟨hb10.os, hb10.tape, hb10.output, hb10.size, fun q hq => hb10.block q (Nat.lt_of_lt_of_le hq HB9.out.size)⟩); have hs10 := hb10.size; clear hb10 hfo hrr hsb)))
                all_goals
                  go_wp2_with fail
                  go_meet
                  refine ⟨Aw, cw, Ar, cr, rfl, rfl, rfl, HFO.out.rd rfl (fun f hf => Nat.le_trans (HX3.out f hf) (by decide)), HRR.out.more (by exact hs10), fun p hp => ?_, HB10.out⟩
                  have h1 := HSB.out p hp
                  cases A9 with
                  | none => cases h1
                  | some a =>
                    injection h1 with h1
                    rw [← h1]
                    have h2 := HO9.out.lt a.block rfl
                    exact ⟨h2.1, Nat.lt_of_lt_of_le h2.2 hs10⟩
              case rest =>
                obtain ⟨Aw, cw, Ar, cr, rfl, rfl, rfl, hfw, hrw, har, hbw⟩ := hcut
                obtain ⟨wz, hwz⟩ : ∃ wz, wz = wc := ⟨_, rfl⟩
                subst hwz
                have HFW := hide hfw
                have HRW := hide hrw
                have HAR := hide har
                have HBW := hide hbw
                have hsw := hbw.size
                have HRz : Hid (Rdr wz R' mid v6 X.2.1 X.2.2) := HRl.out.below hbw
                have HFz : Hid (FrOwn wz wx.heap.size mid (.slice Ao X.1.length co) X.1) := HFl.out.below hbw (by omega)
                have HBz := hide (HBl.out.trans (hbw.mono (by omega)))
                clear hfw hrw har hbw HRl HFl HBl
                have hm1' : ∀ f ∈ X.1, f.2.length ≤ 140737488355328 := fun f hf => Nat.le_trans (HX3.out f hf) (by decide)
                have HM := hide hm1'
                clear hm1'
                have hA3 : ∀ a, Ar = some a → v6.ownBlock ≠ some a.block := fun a ha e => by
                  have := (HAR.out a ha).1
                  have := (HV6.out _ e).2
                  omega
                have HAp : Hid (Apart Ar v6) := hA3
                clear hA3
                cases hbad : X.2.2 with
                | true =>
                  obtain rfl : E = 390 := by rw [HE.out, hbad]; rfl
                  have HRz1 : Hid (Rdr wz R' mid v6 X.2.1 true) := by have := HRz.out; rw [hbad] at this; exact this
                  have HBad := hide hbad
                  clear hbad HRz
                  go_wp2_with fail
                  with_reducible refine (sameFrames_any Ao Aw X.1.length co X.1.length cw X.1 X.1 _ wz.heap.size wz.heap.size (HFz.out.rd rfl HM.out) HFW.out (by omega)).mono ?_
                  rintro e w11 ⟨rfl, q2, rfl⟩
                  rw [show decide (X.1 = X.1) = true by simp]
                  go_wp2_with fail
                  with_reducible refine (left_ok R' mid v6 X.2.1 true _ (by exact HRz1.out.drewN q2)).mono ?_
                  rintro e w12 ⟨rfl, rfl⟩
                  go_wp2_with fail
                  go_loopw [17] (fun i wr => ∃ m : Nat, m ≤ X.1.length ∧ i = .int .i64 (m : Nat) ∧ LentN wr wx.heap.size mid Ao X.1.length (X.1.map fun f => f.2.length) ∧ Out wx.heap.size mid (wz.drewN q2) wr) (fun i _ => X.1.length - (intOf i).toNat)
                  case atStart => exact ⟨0, Nat.zero_le _, rfl, (HFz.out.agree (w' := wz.drewN q2) fun _ _ _ => rfl).lentN, Out.refl _ _ _⟩
                  case round =>
                    obtain ⟨m, hm, rfl, hln, hout⟩ := hrel
                    obtain ⟨w13, hw13⟩ : ∃ w13, w13 = wr := ⟨_, rfl⟩
                    subst hw13
                    have HOU := hide hout
                    have HLN := hide hln
                    clear hout hln
                    by_cases hml : m < X.1.length
                    · obtain ⟨gl, cs, rfl, hgl1, hgl2, hle⟩ := HLN.out.2 (by omega)
                      obtain ⟨nb, hnb, hnb8⟩ : ∃ nb, (X.1.map fun f => f.2.length)[m]? = some nb ∧ nb ≤ 8191 := ⟨(X.1[m]'hml).2.length, by simp [List.getElem?_map, List.getElem?_eq_getElem hml], HX3.out _ (List.getElem_mem hml)⟩
                      have HNB := hide hnb
                      obtain ⟨b0, hcb, hspb⟩ := hle.at hnb
                      obtain ⟨Ab, cb, rfl, _⟩ := hspb
                      rw [Nat.mul_comm] at hcb
                      have HLE := hide hle
                      clear hnb hle
                      go_wp2_with fail
                      go_loopw [18] (fun i wr => ∃ t : Nat, t ≤ nb ∧ i = .int .i64 (t : Nat) ∧ Lent wr wx.heap.size mid gl cs (X.1.map fun f => f.2.length) ∧ Out wx.heap.size mid (wz.drewN q2) wr) (fun i _ => nb - (intOf i).toNat)
                      case atStart => exact ⟨0, Nat.zero_le _, rfl, HLE.out, HOU.out⟩
                      case round =>
                        obtain ⟨t, ht, rfl, hle2, hout2⟩ := hrel
                        obtain ⟨w14, hw14⟩ : ∃ w14, w14 = wr := ⟨_, rfl⟩
                        subst hw14
                        have HLE2 := hide hle2
                        have HOU2 := hide hout2
                        obtain ⟨b1, hcb1, hsp1⟩ := hle2.at HNB.out
                        rw [Nat.mul_comm] at hcb1
                        clear hle2 hout2 hcb
                        by_cases htn : t < nb
                        · have HSP1 := hide hsp1
                          obtain ⟨g1, c1, u1, rfl, h11, h12, hc1, hf1⟩ := hsp1.at htn
                          have hne := HLE2.out.ne HSP1.out htn rfl
                          clear hsp1
                          go_wp2_with fail
                          go_roundw
                          case rel => exact ⟨t + 1, by omega, by go_num, HLE2.out.put hne, HOU2.out.put h11 h12 _⟩
                          case measure => simp [intOf]; omega
                        · obtain ⟨A1, c1, rfl, _⟩ := hsp1
                          go_wp2_with fail
                          go_roundw
                          case rel => exact ⟨m + 1, by omega, by go_num, ⟨HLN.out.1, fun _ => ⟨gl, cs, rfl, hgl1, hgl2, HLE2.out⟩⟩, HOU2.out⟩
                          case measure => simp [intOf]; omega
                    · have hs13 : w13.heap.size = wz.heap.size := HOU.out.size
                      go_wp2_with fail
                      go_roundg (200 - (k + 1))
                      case measure => omega
                      case rel =>
                        refine ⟨k + 1, by omega, by omega, rfl, by go_num, R', mid, v6, Ar, cr, X.2.1, true, rfl, rfl, rfl, hXl, fun _ => HX2.out HBad.out, hR0', by omega, by omega, ?_, ?_, HAp.out, ?_, ?_⟩
                        · exact (HRz1.out.drewN q2).out HOU.out (by omega) (fun e he => by have := HV6.out e he; omega)
                        · rw [hs13]
                          exact (HRW.out.drewN q2).out HOU.out (fun a ha => by have := (HAR.out a ha).1; omega)
                        · intro a ha
                          rw [hs13]
                          exact (HAR.out a ha).2
                        · exact (below_drewN HBz.out q2).trans (HOU.out.below (B := w.heap.size) (by omega))
                | false =>
                  obtain rfl : E = 0 := by rw [HE.out, hbad]; rfl
                  have HRz1 : Hid (Rdr wz R' mid v6 X.2.1 false) := by have := HRz.out; rw [hbad] at this; exact this
                  have HBad := hide hbad
                  clear hbad HRz
                  go_wp2_with fail
                  with_reducible refine (sameFrames_any Ao Aw X.1.length co X.1.length cw X.1 X.1 _ wz.heap.size wz.heap.size (HFz.out.rd rfl HM.out) HFW.out (by omega)).mono ?_
                  rintro e w11 ⟨rfl, q2, rfl⟩
                  rw [show decide (X.1 = X.1) = true by simp]
                  go_wp2_with fail
                  with_reducible refine (left_ok R' mid v6 X.2.1 false _ (by exact HRz1.out.drewN q2)).mono ?_
                  rintro e w12 ⟨rfl, rfl⟩
                  go_wp2_with fail
                  go_loopw [17] (fun i wr => ∃ m : Nat, m ≤ X.1.length ∧ i = .int .i64 (m : Nat) ∧ LentN wr wx.heap.size mid Ao X.1.length (X.1.map fun f => f.2.length) ∧ Out wx.heap.size mid (wz.drewN q2) wr) (fun i _ => X.1.length - (intOf i).toNat)
                  case atStart => exact ⟨0, Nat.zero_le _, rfl, (HFz.out.agree (w' := wz.drewN q2) fun _ _ _ => rfl).lentN, Out.refl _ _ _⟩
                  case round =>
                    obtain ⟨m, hm, rfl, hln, hout⟩ := hrel
                    obtain ⟨w13, hw13⟩ : ∃ w13, w13 = wr := ⟨_, rfl⟩
                    subst hw13
                    have HOU := hide hout
                    have HLN := hide hln
                    clear hout hln
                    by_cases hml : m < X.1.length
                    · obtain ⟨gl, cs, rfl, hgl1, hgl2, hle⟩ := HLN.out.2 (by omega)
                      obtain ⟨nb, hnb, hnb8⟩ : ∃ nb, (X.1.map fun f => f.2.length)[m]? = some nb ∧ nb ≤ 8191 := ⟨(X.1[m]'hml).2.length, by simp [List.getElem?_map, List.getElem?_eq_getElem hml], HX3.out _ (List.getElem_mem hml)⟩
                      have HNB := hide hnb
                      obtain ⟨b0, hcb, hspb⟩ := hle.at hnb
                      obtain ⟨Ab, cb, rfl, _⟩ := hspb
                      rw [Nat.mul_comm] at hcb
                      have HLE := hide hle
                      clear hnb hle
                      go_wp2_with fail
                      go_loopw [18] (fun i wr => ∃ t : Nat, t ≤ nb ∧ i = .int .i64 (t : Nat) ∧ Lent wr wx.heap.size mid gl cs (X.1.map fun f => f.2.length) ∧ Out wx.heap.size mid (wz.drewN q2) wr) (fun i _ => nb - (intOf i).toNat)
                      case atStart => exact ⟨0, Nat.zero_le _, rfl, HLE.out, HOU.out⟩
                      case round =>
                        obtain ⟨t, ht, rfl, hle2, hout2⟩ := hrel
                        obtain ⟨w14, hw14⟩ : ∃ w14, w14 = wr := ⟨_, rfl⟩
                        subst hw14
                        have HLE2 := hide hle2
                        have HOU2 := hide hout2
                        obtain ⟨b1, hcb1, hsp1⟩ := hle2.at HNB.out
                        rw [Nat.mul_comm] at hcb1
                        clear hle2 hout2 hcb
                        by_cases htn : t < nb
                        · have HSP1 := hide hsp1
                          obtain ⟨g1, c1, u1, rfl, h11, h12, hc1, hf1⟩ := hsp1.at htn
                          have hne := HLE2.out.ne HSP1.out htn rfl
                          clear hsp1
                          go_wp2_with fail
                          go_roundw
                          case rel => exact ⟨t + 1, by omega, by go_num, HLE2.out.put hne, HOU2.out.put h11 h12 _⟩
                          case measure => simp [intOf]; omega
                        · obtain ⟨A1, c1, rfl, _⟩ := hsp1
                          go_wp2_with fail
                          go_roundw
                          case rel => exact ⟨m + 1, by omega, by go_num, ⟨HLN.out.1, fun _ => ⟨gl, cs, rfl, hgl1, hgl2, HLE2.out⟩⟩, HOU2.out⟩
                          case measure => simp [intOf]; omega
                    · have hs13 : w13.heap.size = wz.heap.size := HOU.out.size
                      go_wp2_with fail
                      go_roundg (200 - (k + 1))
                      case measure => omega
                      case rel =>
                        refine ⟨k + 1, by omega, by omega, rfl, by go_num, R', mid, v6, Ar, cr, X.2.1, false, rfl, rfl, rfl, hXl, fun h => (by cases h), hR0', by omega, by omega, ?_, ?_, HAp.out, ?_, ?_⟩
                        · exact (HRz1.out.drewN q2).out HOU.out (by omega) (fun e he => by have := HV6.out e he; omega)
                        · rw [hs13]
                          exact (HRW.out.drewN q2).out HOU.out (fun a ha => by have := (HAR.out a ha).1; omega)
                        · intro a ha
                          rw [hs13]
                          exact (HAR.out a ha).2
                        · exact (below_drewN HBz.out q2).trans (HOU.out.below (B := w.heap.size) (by omega))
    · go_wp2_with fail
      all_goals
        with_reducible refine (awake_any _).mono ?_
        rintro e w9 ⟨rfl, hb9⟩
        have HB9 := hide (HB.out.trans (hb9.mono hsz))
        clear hb9
        go_wp2_with fail
        go_ret
        exact ⟨rfl, HB9.out⟩
end Go.Proofs.Ytnieenlnpnaamaa
