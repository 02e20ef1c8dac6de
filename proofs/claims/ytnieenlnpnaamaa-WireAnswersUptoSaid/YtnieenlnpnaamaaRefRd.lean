/-
  The walk of chanceryref29.Read: it tells the answer whose frames these are. Conditions: at most 4000000 frames, each of at most 2^20 bytes.
-/
import Derived.Test.YtnieenlnpnaamaaRefNames
import Derived.Test.YtnieenlnpnaamaaRefAns
import Derived.StillTailTactics
namespace Go.Proofs.Ytnieenlnpnaamaa
open Go.RowKit

def CapOk (w : World) (A : Option Addr) (n : Nat) : Prop := ∀ i, i < n → ∀ (g off : Nat) (Ab : Option Addr) (m cb : Nat), A = some ⟨g, off, none⟩ → w.cell? ⟨g, off + i * 2 + 1, none⟩ = some (.slice Ab m cb) → cb ≤ 1048576
/-- What the reference has made of the first frames. -/
def RcIs (l : List Fr) (j : Nat) (ns : List ByteArray) (rs : List (List Cell.Val)) (cnt : Int) : Prop := (Wire.rc (l.take j)).2 = ⟨ns, rs, cnt⟩
theorem rc_idx {l : List Fr} {j : Nat} {f : Fr} (h : l[j]? = some f) : (Wire.rc (l.take j)).1 = j := by
  rw [Wire.rc_at, List.length_take]
  have : j < l.length := by
    rcases Nat.lt_or_ge j l.length with h' | h'
    · exact h'
    · rw [List.getElem?_eq_none h'] at h; cases h
  omega
theorem RcIs.seven {l : List Fr} {j : Nat} {f : Fr} {ns : List ByteArray} {rs : List (List Cell.Val)} {cnt : Int} (h : RcIs l j ns rs cnt) (hf : l[j]? = some f) (h7 : f.1 = 7 ∧ f.2.length = 4) : RcIs l (j + 1) ns rs (Wire.be4 f.2 : Int) := by
  unfold RcIs at h ⊢
  rw [Wire.rc_take hf]
  unfold Wire.rstep
  rw [if_pos h7, h]
theorem RcIs.six {l : List Fr} {j : Nat} {f : Fr} {ns : List ByteArray} {rs : List (List Cell.Val)} {cnt : Int} (h : RcIs l j ns rs cnt) (hf : l[j]? = some f) (h7 : ¬ (f.1 = 7 ∧ f.2.length = 4)) (h6 : f.1 = 6 ∧ j = 0) : RcIs l (j + 1) (Wire.refNames f.2) rs cnt := by
  unfold RcIs at h ⊢
  rw [Wire.rc_take hf]
  unfold Wire.rstep
  rw [if_neg h7, if_pos ⟨h6.1, by rw [rc_idx hf]; exact h6.2⟩, h]
theorem RcIs.row {l : List Fr} {j : Nat} {f : Fr} {ns : List ByteArray} {rs : List (List Cell.Val)} {cnt : Int} (h : RcIs l j ns rs cnt) (hf : l[j]? = some f) (h7 : ¬ (f.1 = 7 ∧ f.2.length = 4)) (h6 : ¬ (f.1 = 6 ∧ j = 0)) : RcIs l (j + 1) ns (rs ++ [(Cell.refRead f.2).getD []]) cnt := by
  unfold RcIs at h ⊢
  rw [Wire.rc_take hf]
  unfold Wire.rstep
  rw [if_neg h7, if_neg (by rw [rc_idx hf]; exact h6), h]
theorem RcIs.cand {l : List Fr} {ns : List ByteArray} {rs : List (List Cell.Val)} {cnt : Int} {j : Nat} (h : RcIs l j ns rs cnt) (hj : j = l.length) (ok : ∀ r ∈ rs, VOk r) : Cand l ns rs cnt := by
  refine ⟨ok, fun a hs => ?_⟩
  rw [← hs.rc, ← h, hj, List.take_length]
theorem refRow_len {l : List UInt8} : ((Cell.refRead l).getD []).length ≤ 4611686018427387904 := by
  cases h : Cell.refRead l with
  | none => simp
  | some r =>
    rw [← Cell.read_ref] at h
    have := (Cell.row_ok.1 (Cell.read_row h)).2.1
    simp only [Option.getD_some]
    omega
theorem kind_is (f : Fr) (k : UInt8) : ((f.1.toNat : Int) == (k.toNat : Int)) = decide (f.1 = k) := by
  rw [Bool.eq_iff_iff]
  simp only [beq_iff_eq, decide_eq_true_eq]
  exact ⟨fun h => UInt8.toNat_inj.1 (by omega), fun h => by rw [h]⟩

set_option linter.unusedVariables false in
set_option maxRecDepth 8000 in
set_option maxHeartbeats 1600000 in
theorem refRead29_any (A : Option Addr) (n c : Nat) (l : List Fr) (w : World) (hl : FrRd w w.heap.size A n l) (hnc : n ≤ c) (hcm : c ≤ 9223372036854775807) (hn : n ≤ 4000000) (hcap : CapOk w A n) :
    Calls Try.prog 22 #[.slice A n c] w (RdE w l) := by
  have HL := hide hl
  have HN := hide hl.1
  have HCap := hide hcap
  clear hl hcap
  obtain ⟨w1, hw1⟩ : ∃ w1, w1 = w.alloc (.cells #[.slice none 0 0, .slice none 0 0, .int .i64 0] 50) := ⟨_, rfl⟩
  have HW1 := hide hw1
  have hs1 : w.heap.size < w1.heap.size := by rw [hw1]; simp
  go_enter Try.func22, Try.ntmps22
  go_upto_region 1 with fail
  rw [← hw1]
  clear hw1
  go_upto_region 2 with fail
  obtain ⟨w2, hw2⟩ : ∃ w2, w2 = w1.alloc (.cells #[.slice none 0 0, .slice none 0 0, .int .i64 0] 50) := ⟨_, rfl⟩
  have HK2 : Hid (Blk w2 w.heap.size 50 #[.slice none 0 0, .slice none 0 0, .int .i64 0]) := by rw [hw2, HW1.out]; exact (Blk.new _ _ _).alloc _
  have HA2 : Hid (Blk w2 w1.heap.size 50 #[.slice none 0 0, .slice none 0 0, .int .i64 0]) := by rw [hw2]; exact Blk.new _ _ _
  have HB2 : Hid (Below w.heap.size w w2) := by rw [hw2, HW1.out]; exact ((Below.refl _ _).alloc (Nat.le_refl _) _).alloc (by simp) _
  have hs2 : w1.heap.size < w2.heap.size := by rw [hw2]; simp
  rw [← hw2]
  clear hw2 HW1
  go_wp2_with fail
  go_loopg [5] n (fun gg i wr => ∃ (j : Nat) (ns : List ByteArray) (rs : List (List Cell.Val)) (An : Option Addr) (cn : Nat) (Ar : Option Addr) (cr cnt : Nat), j ≤ n ∧ gg = n - j ∧ i = .int .i64 (j : Nat) ∧ Blk wr w.heap.size 50 #[.slice none 0 0, .slice none 0 0, .int .i64 0] ∧ Blk wr w1.heap.size 50 #[.slice An ns.length cn, .slice Ar rs.length cr, .int .i64 (cnt : Int)] ∧ RrOwn wr w2.heap.size (.slice Ar rs.length cr) rs ∧ wr.ownsRow w2.heap.size 9 1 (.slice An ns.length cn) ns.length (ns.map Value.string) ∧ (∀ s ∈ ns, s.size ≤ 255) ∧ ns.length ≤ 2097160 ∧ RcIs l j ns rs (cnt : Int) ∧ rs.length ≤ j ∧ Below w.heap.size w wr ∧ w2.heap.size ≤ wr.heap.size)
  case atStart => exact ⟨0, [], [], none, 0, none, 0, 0, Nat.zero_le _, rfl, rfl, HK2.out, HA2.out, RrOwn.nil _ _, own_nil _ _ _ _, by simp, by simp, rfl, Nat.le_refl _, HB2.out, Nat.le_refl _⟩
  case round =>
    obtain ⟨j, ns, rs, An, cn, Ar, cr, cnt, hj, rfl, rfl, hk3, ha3, hrr, hown3, hz, hnl, hrc, hrl, hbel3, hlo3⟩ := hrel
    obtain ⟨w3, hw3⟩ : ∃ w3, w3 = wr := ⟨_, rfl⟩
    subst hw3
    have HK3 := hide hk3
    have HA3 := hide ha3
    have HR3 := hide hrr
    have HO3 := hide hown3
    have HZ := hide hz
    have HRc := hide hrc
    have HB3 := hide hbel3
    have hsz3 := hbel3.size
    clear hk3 ha3 hrr hown3 hz hrc hbel3 HK2 HA2 HB2
    by_cases hlt : j < n
    · obtain ⟨g, off, f, Af, cf, rfl, hg, hf, d0, d1, hfr, hfm, hfc, hfx⟩ := (HL.out.below HB3.out (Nat.le_refl _)).atC hlt
      have hcf : cf ≤ 1048576 := HCap.out j hlt g off Af f.2.length cf rfl (by rw [← HB3.out.cell (p := ⟨g, off + j * 2 + 1, none⟩) hg]; exact d1)
      have HF := hide hf
      have HFr := hide hfr
      clear hf hfr
      obtain ⟨w4, hw4⟩ : ∃ w4, w4 = w3.alloc (.cells #[.int .u8 (f.1.toNat : Int), .slice Af f.2.length cf] 42) := ⟨_, rfl⟩
      have HX4 : Hid (Blk w4 w3.heap.size 42 #[.int .u8 (f.1.toNat : Int), .slice Af f.2.length cf]) := by rw [hw4]; exact Blk.new _ _ _
      have hb34 : Below w3.heap.size w3 w4 := by rw [hw4]; exact (Below.refl _ _).alloc (Nat.le_refl _) _
      have hs4 : w3.heap.size < w4.heap.size := by rw [hw4]; simp
      have HB34 := hide hb34
      have HB4 := hide (HB3.out.trans (hb34.mono (by omega)))
      have HK4 := hide (HK3.out.below hb34 (by omega))
      have HA4 := hide (HA3.out.below hb34 (by omega))
      have HR4 := hide (HR3.out.below hb34)
      have HO4 := hide (own_below HO3.out hb34)
      have HFr4 := hide (HFr.out.below hb34 (by omega))
      go_upto_region 8 with fail
      rw [← hw4]
      clear hw4 hb34 HB3 HK3 HA3 HR3 HO3 HFr d0 d1
      have x0 := HX4.out.cell 0
      have x1 := HX4.out.cell 1
      simp at x0 x1
      go_cut [33] (fun b wx => b = .bool (decide (f.1 = 7 ∧ f.2.length = 4)) ∧ wx = w4)
      case first =>
        by_cases h7 : f.1 = 7
        · have t7 : ((f.1.toNat : Int) == 7) = true := by rw [h7]; rfl
          have H7 := hide h7
          clear h7
          by_cases h4 : f.2.length = 4
          · have t4 : ((f.2.length : Int) == 4) = true := by simp; omega
            have H4 := hide h4
            clear h4
            go_wp2_with fail
            go_meet
            exact ⟨congrArg Value.bool (decide_eq_true (p := f.1 = 7 ∧ f.2.length = 4) ⟨H7.out, H4.out⟩).symm, rfl⟩
          · have t4 : ((f.2.length : Int) == 4) = false := by simp; omega
            have H4 := hide h4
            clear h4
            go_wp2_with fail
            go_meet
            exact ⟨congrArg Value.bool (decide_eq_false (p := f.1 = 7 ∧ f.2.length = 4) fun h => H4.out h.2).symm, rfl⟩
        · have t7 : ((f.1.toNat : Int) == 7) = false := (kind_is f 7).trans (decide_eq_false h7)
          have H7 := hide h7
          clear h7
          go_wp2_with fail
          go_meet
          exact ⟨congrArg Value.bool (decide_eq_false (p := f.1 = 7 ∧ f.2.length = 4) fun h => H7.out h.1).symm, rfl⟩
      case rest =>
        obtain ⟨rfl, hwc⟩ := hcut
        obtain ⟨w5, hw5⟩ : ∃ w5, w5 = wc := ⟨_, rfl⟩
        subst hw5
        rw [← hwc] at HX4 HB34 HB4 HK4 HA4 HR4 HO4 HFr4 hs4
        clear hwc x0 x1
        by_cases h7 : f.1 = 7 ∧ f.2.length = 4
        · rw [decide_eq_true h7]
          have HRn := hide (HRc.out.seven HF.out h7)
          have x0 := HX4.out.cell 0
          have x1 := HX4.out.cell 1
          simp at x0 x1
          have hrb := HFr4.out
          rw [h7.2] at hrb x1
          clear h7
          obtain ⟨bb, bo, rfl, hbb, _⟩ := hrb.all (by omega)
          obtain ⟨y0, e0, c0⟩ := hrb.atS (show 0 < 4 by omega)
          obtain ⟨y1, e1, c1⟩ := hrb.atS (show 1 < 4 by omega)
          obtain ⟨y2, e2, c2⟩ := hrb.atS (show 2 < 4 by omega)
          obtain ⟨y3, e3, c3⟩ := hrb.atS (show 3 < 4 by omega)
          rw [Nat.add_zero] at c0
          have b0 := y0.toNat_lt
          have b1 := y1.toNat_lt
          have b2 := y2.toNat_lt
          have b3 := y3.toNat_lt
          obtain ⟨N, hN⟩ : ∃ N, N = Wire.be4 f.2 := ⟨_, rfl⟩
          rw [← hN] at HRn
          have HE : Hid ((y0.toNat : Int) * 16777216 + y1.toNat * 65536 + y2.toNat * 256 + y3.toNat = (N : Int)) := by
            show _ = (N : Int)
            rw [hN]
            unfold Wire.be4
            rw [e0, e1, e2, e3]
            omega
          clear hN e0 e1 e2 e3 hrb HFr4
          go_upto_region 9 with fail
          refine wp_region_still_tail 27 (by kernel_rfl) (by kernel_rfl) ?_
          obtain ⟨wD, hwD⟩ : ∃ x : World, x = { w5 with drawn := w5.drawn + 1 } := ⟨_, rfl⟩
          rw [← hwD]
          have hqD : wD = w5.drewN 1 := hwD
          have z0 : wD.cell? ⟨bb, bo, none⟩ = some (.int .u8 (y0.toNat : Int)) := by rw [hwD]; exact c0
          have z1 : wD.cell? ⟨bb, bo + 1, none⟩ = some (.int .u8 (y1.toNat : Int)) := by rw [hwD]; exact c1
          have z2 : wD.cell? ⟨bb, bo + 2, none⟩ = some (.int .u8 (y2.toNat : Int)) := by rw [hwD]; exact c2
          have z3 : wD.cell? ⟨bb, bo + 3, none⟩ = some (.int .u8 (y3.toNat : Int)) := by rw [hwD]; exact c3
          have u0 : wD.cell? ⟨w3.heap.size, 0, none⟩ = some (.int .u8 (f.1.toNat : Int)) := by rw [hwD]; exact x0
          have u1 : wD.cell? ⟨w3.heap.size, 1, none⟩ = some (.slice (some ⟨bb, bo, none⟩) 4 cf) := by rw [hwD]; exact x1
          have HKD : Hid (Blk wD w.heap.size 50 #[.slice none 0 0, .slice none 0 0, .int .i64 0]) := HK4.out.drewE hqD
          have HAD : Hid (Blk wD w1.heap.size 50 #[.slice An ns.length cn, .slice Ar rs.length cr, .int .i64 (cnt : Int)]) := HA4.out.drewE hqD
          have HRD : Hid (RrOwn wD w2.heap.size (.slice Ar rs.length cr) rs) := by rw [hwD]; exact HR4.out.agree fun _ _ _ => rfl
          have HOD : Hid (wD.ownsRow w2.heap.size 9 1 (.slice An ns.length cn) ns.length (ns.map Value.string)) := by rw [hwD]; exact own_agree HO4.out fun _ _ => rfl
          have HBD : Hid (Below w.heap.size w wD) := Below.drewE HB4.out hqD
          have hsD : w5.heap.size = wD.heap.size := by rw [hwD]
          have v2 := HAD.out.cell 2
          have g2 := HAD.out.frozen 2
          simp at v2
          clear hwD hqD c0 c1 c2 c3 x0 x1 HK4 HA4 HR4 HO4 HB4 HX4 HB34
          simp only [List.take_succ_cons, List.take_zero, List.drop_succ_cons, List.drop_zero]
          iterate 27 still_step
          refine wpStill_nil ?_
          have q0 : IntKind.i64.wrap (y0.toNat : Int) = (y0.toNat : Int) := IntWalk.i64_in _ (by omega)
          have q1 : IntKind.i64.wrap (y1.toNat : Int) = (y1.toNat : Int) := IntWalk.i64_in _ (by omega)
          have q2 : IntKind.i64.wrap (y2.toNat : Int) = (y2.toNat : Int) := IntWalk.i64_in _ (by omega)
          have q3 : IntKind.i64.wrap (y3.toNat : Int) = (y3.toNat : Int) := IntWalk.i64_in _ (by omega)
          have q4 : IntKind.i64.wrap ((y0.toNat : Int) * 16777216) = (y0.toNat : Int) * 16777216 := IntWalk.i64_in _ (by omega)
          have q5 : IntKind.i64.wrap ((y1.toNat : Int) * 65536) = (y1.toNat : Int) * 65536 := IntWalk.i64_in _ (by omega)
          have q6 : IntKind.i64.wrap ((y2.toNat : Int) * 256) = (y2.toNat : Int) * 256 := IntWalk.i64_in _ (by omega)
          have q7 : IntKind.i64.wrap ((y0.toNat : Int) * 16777216 + (y1.toNat : Int) * 65536) = (y0.toNat : Int) * 16777216 + (y1.toNat : Int) * 65536 := IntWalk.i64_in _ (by omega)
          have q8 : IntKind.i64.wrap ((y0.toNat : Int) * 16777216 + (y1.toNat : Int) * 65536 + (y2.toNat : Int) * 256) = (y0.toNat : Int) * 16777216 + (y1.toNat : Int) * 65536 + (y2.toNat : Int) * 256 := IntWalk.i64_in _ (by omega)
          have q9 : IntKind.i64.wrap ((y0.toNat : Int) * 16777216 + (y1.toNat : Int) * 65536 + (y2.toNat : Int) * 256 + (y3.toNat : Int)) = (y0.toNat : Int) * 16777216 + (y1.toNat : Int) * 65536 + (y2.toNat : Int) * 256 + (y3.toNat : Int) := IntWalk.i64_in _ (by omega)
          simp only [q0, q1, q2, q3, q4, q5, q6, q7, q8, q9]
          clear q0 q1 q2 q3 q4 q5 q6 q7 q8 q9
          rw [HE.out]
          clear z0 z1 z2 z3 b0 b1 b2 b3 HE u0 u1
          go_wp2_with fail
          go_roundg (n - (j + 1))
          case measure => omega
          case rel => exact ⟨j + 1, ns, rs, An, cn, Ar, cr, N, by omega, rfl, by go_num, HKD.out.far (by show w.heap.size ≠ w1.heap.size; omega) _, HAD.out.put 2 _, HRD.out.agree (fun k h1 h2 => Below.heap_setCell _ _ _ _ (by show k ≠ w1.heap.size; omega)), ownsRow_setCell_below HOD.out (show w1.heap.size < w2.heap.size from hs2) _, HZ.out, hnl, HRn.out, by omega, HBD.out.setCell (p := ⟨w1.heap.size, 2, none⟩) (Nat.le_of_lt hs1) _, by simp [World.setCell]; omega⟩
        · rw [decide_eq_false h7]
          have H7 := hide h7
          clear h7
          have x0 := HX4.out.cell 0
          have x1 := HX4.out.cell 1
          simp at x0 x1
          go_upto_region 10 with fail
          go_cut [70] (fun b wx => b = .bool (decide (f.1 = 6 ∧ j = 0)) ∧ wx = w5)
          case first =>
            by_cases h6 : f.1 = 6
            · have t6 : ((f.1.toNat : Int) == 6) = true := by rw [h6]; rfl
              have H6 := hide h6
              clear h6
              by_cases h0 : j = 0
              · have t0 : ((j : Int) == 0) = true := by simp; omega
                have H0 := hide h0
                clear h0
                go_wp2_with fail
                go_meet
                exact ⟨congrArg Value.bool (decide_eq_true (p := f.1 = 6 ∧ j = 0) ⟨H6.out, H0.out⟩).symm, rfl⟩
              · have t0 : ((j : Int) == 0) = false := by simp; omega
                have H0 := hide h0
                clear h0
                go_wp2_with fail
                go_meet
                exact ⟨congrArg Value.bool (decide_eq_false (p := f.1 = 6 ∧ j = 0) fun h => H0.out h.2).symm, rfl⟩
            · have t6 : ((f.1.toNat : Int) == 6) = false := (kind_is f 6).trans (decide_eq_false h6)
              have H6 := hide h6
              clear h6
              go_wp2_with fail
              go_meet
              exact ⟨congrArg Value.bool (decide_eq_false (p := f.1 = 6 ∧ j = 0) fun h => H6.out h.1).symm, rfl⟩
          case rest =>
            obtain ⟨rfl, hwc⟩ := hcut
            obtain ⟨w6, hw6⟩ : ∃ w6, w6 = wc := ⟨_, rfl⟩
            subst hw6
            rw [← hwc] at HX4 HB34 HB4 HK4 HA4 HR4 HO4 HFr4 hs4
            clear hwc x0 x1
            have x0 := HX4.out.cell 0
            have x1 := HX4.out.cell 1
            simp at x0 x1
            by_cases h6 : f.1 = 6 ∧ j = 0
            · rw [decide_eq_true h6]
              have HRn := hide (HRc.out.six HF.out H7.out h6)
              clear h6
              go_wp2_with fail
              with_reducible refine (refNames_any Af f.2.length cf f.2 _ (by exact HFr4.out.more (by omega)) hfc hfx (by omega)).mono ?_
              rintro e w7 ⟨v7, rfl, hown7, hz7, hl7, hb7⟩
              have HB7 := hide (HB4.out.trans (hb7.mono (by omega)))
              have HK7 := hide (HK4.out.below hb7 (by omega))
              have HA7 := hide (HA4.out.below hb7 (by omega))
              have HR7 := hide (HR4.out.below hb7)
              have HO7 := hide (own_base hown7 (show w2.heap.size ≤ w6.heap.size by omega))
              have HZ7 := hide hz7
              have hs7 := hb7.size
              obtain ⟨A7, c7, rfl⟩ := own_sl hown7
              have v0 := HA7.out.cell 0
              have g0 := HA7.out.frozen 0
              simp at v0
              clear hown7 hz7 hb7 x0 x1 HK4 HA4 HR4 HO4 HB4 HX4 HB34
              go_wp2_with fail
              go_roundg (n - (j + 1))
              case measure => omega
              case rel => exact ⟨j + 1, Wire.refNames f.2, rs, A7, c7, Ar, cr, cnt, by omega, rfl, by go_num, HK7.out.far (by show w.heap.size ≠ w1.heap.size; omega) _, HA7.out.put 0 _, HR7.out.agree (fun k h1 h2 => Below.heap_setCell _ _ _ _ (by show k ≠ w1.heap.size; omega)), ownsRow_setCell_below HO7.out (show w1.heap.size < w2.heap.size from hs2) _, HZ7.out, hl7, HRn.out, by omega, HB7.out.setCell (p := ⟨w1.heap.size, 0, none⟩) (Nat.le_of_lt hs1) _, by simp [World.setCell]; omega⟩
            · rw [decide_eq_false h6]
              have HRn := hide (HRc.out.row HF.out H7.out h6)
              clear h6
              go_wp2_with fail
              with_reducible refine (refRead_any Af f.2.length cf f.2 _ (by exact HFr4.out.more (by omega)) hfc (by omega)).mono ?_
              rintro e w7 ⟨v7, en, rfl, hen, hown7, hb7, hv7⟩
              have hrlen := refRow_len (l := f.2)
              obtain ⟨r, hr⟩ : ∃ r, r = (Cell.refRead f.2).getD [] := ⟨_, rfl⟩
              rw [← hr] at HRn hown7 hv7 hrlen
              have HVo : Hid (VOk r) := hv7
              have HB7 := hide (HB4.out.trans (hb7.mono (by omega)))
              have HK7 := hide (HK4.out.below hb7 (by omega))
              have HA7 := hide (HA4.out.below hb7 (by omega))
              have HR7 := hide (HR4.out.below hb7)
              have HO7 := hide (own_below HO4.out hb7)
              have HV7 := hide (own_base hown7 (show w2.heap.size ≤ w6.heap.size by omega))
              have hs7 := hb7.size
              obtain ⟨A7, c7, rfl⟩ := own_sl hown7
              have v1 := HA7.out.cell 1
              simp at v1
              clear hr hen hv7 hown7 hb7 x0 x1 HK4 HA4 HR4 HO4 HB4 HX4 HB34
              go_wp2_with (at_builtin; refine wpList_appR rfl (.tmp 28) (.tmp 30) rfl w2.heap.size _ rs rfl HR7.out 1 r (.slice A7 r.length c7) HV7.out HVo.out hrlen rfl rfl (by omega) (by omega) ?_; intro v10 w10 hrr10 hb10 hkeep10; have HR10 := hide hrr10; have HA10 := hide (HA7.out.below hb10 hs2); have HK10 := hide (HK7.out.below hb10 (by omega)); have HO10 := hide (hkeep10 _ _ _ _ _ _ HO7.out (by decide)); have HB10 := hide (HB7.out.trans (hb10.mono (by omega))); have hs10 := hb10.size; have l1 := HA10.out.cell 1; have e1 := HA10.out.frozen 1; simp at l1; obtain ⟨A10, c10, rfl⟩ := hrr10.form; clear hrr10 hb10 hkeep10)
              go_wp2_with fail
              go_roundg (n - (j + 1))
              case measure => omega
              case rel => exact ⟨j + 1, ns, rs ++ [r], An, cn, A10, c10, cnt, by omega, rfl, by go_num, HK10.out.far (by show w.heap.size ≠ w1.heap.size; omega) _, by rw [List.length_append]; exact HA10.out.put 1 _, HR10.out.agree (fun k h1 h2 => Below.heap_setCell _ _ _ _ (by show k ≠ w1.heap.size; omega)), ownsRow_setCell_below HO10.out (show w1.heap.size < w2.heap.size from hs2) _, HZ.out, hnl, HRn.out, by simp; omega, HB10.out.setCell (p := ⟨w1.heap.size, 1, none⟩) (Nat.le_of_lt hs1) _, by simp [World.setCell]; omega⟩
    · obtain rfl : j = n := by omega
      have hcand : Cand l ns rs (cnt : Int) := HRc.out.cand HN.out HR3.out.okA
      have HCand := hide hcand
      clear hcand HRc
      have a0 := HA3.out.cell 0
      have a1 := HA3.out.cell 1
      have a2 := HA3.out.cell 2
      simp at a0 a1 a2
      go_wp2_with fail
      with_reducible refine (refAnswer_any An ns.length cn ns Ar rs.length cr rs (cnt : Int) _ (by exact Rt.own HO3.out HZ.out) (by exact HR3.out.rd rfl) (by omega) (by omega)).mono ?_
      rintro e w7 ⟨v7, rfl, hf7, hb7⟩
      have HB7 := hide (HB3.out.trans (hb7.mono hsz3))
      have HK7 := hide (HK3.out.below hb7 (by omega))
      have HA7 := hide (HA3.out.below hb7 (by omega))
      have HR7 := hide (HR3.out.below hb7)
      have HO7 := hide (own_below HO3.out hb7)
      have hs7 := hb7.size
      obtain ⟨en, fl, hX⟩ : ∃ en fl, (en, fl) = Wire.answer ⟨ns, rs, (cnt : Int)⟩ := ⟨_, _, rfl⟩
      rw [← hX] at hf7 ⊢
      simp only at hf7 ⊢
      obtain ⟨A7, c7, rfl⟩ := hf7.form
      have HF7 := hide hf7
      have HX := hide hX.symm
      clear a0 a1 a2 hf7 hX hb7 HB3 HK3 HA3 HR3 HO3
      by_cases hen : en = 0
      · subst hen
        obtain ⟨hbl, hbm⟩ := answer_sizes HX.out
        have hfl0 : fl.length ≤ 4000003 := by omega
        clear hbl
        have HBm := hide hbm
        clear hbm
        go_wp2_with fail
        with_reducible refine (sameFrames_any A7 A fl.length c7 j c fl l _ w7.heap.size w7.heap.size (by exact HF7.out.rd rfl (fun f hf => Nat.le_trans (HBm.out f hf) (by decide))) (by exact (HL.out.below HB7.out (Nat.le_refl _)).more (by omega)) (by omega)).mono ?_
        rintro e w8' ⟨rfl, nq, hw8⟩
        obtain ⟨w8, hw8'⟩ : ∃ w8, w8 = w8' := ⟨_, rfl⟩
        subst hw8'
        have HB8 := hide (Below.drewE HB7.out hw8)
        have HK8 := hide (HK7.out.drewE hw8)
        have HA8 := hide (HA7.out.drewE hw8)
        have HR8 : Hid (RrOwn w8 w2.heap.size (.slice Ar rs.length cr) rs) := by rw [hw8]; exact HR7.out.agree fun _ _ _ => rfl
        have HO8 : Hid (w8.ownsRow w2.heap.size 9 1 (.slice An ns.length cn) ns.length (ns.map Value.string)) := by rw [hw8]; exact own_agree HO7.out fun _ _ => rfl
        have hs8 : w8.heap.size = w7.heap.size := by rw [hw8]; rfl
        have HS8 := hide hs8
        have hs8' : w7.heap.size ≤ w8.heap.size := by omega
        clear hw8 hs8
        by_cases hfl : fl = l
        · have HSays := hide (HCand.out.yes (by rw [HX.out, hfl]))
          rw [show decide (fl = l) = true from decide_eq_true hfl]
          clear hfl
          have a0 := HA8.out.cell 0
          have a1 := HA8.out.cell 1
          have a2 := HA8.out.cell 2
          have k0 := HK8.out.cell 0
          have k1 := HK8.out.cell 1
          have k2 := HK8.out.cell 2
          have f0' := HK8.out.frozen 0
          have f1' := HK8.out.frozen 1
          have f2' := HK8.out.frozen 2
          simp at a0 a1 a2 k0 k1 k2
          go_wp2_with fail
          obtain ⟨w9, hw9⟩ : ∃ w9, w9 = ((w8.setCell ⟨w.heap.size, 0, none⟩ (.slice An ns.length cn)).setCell ⟨w.heap.size, 1, none⟩ (.slice Ar rs.length cr)).setCell ⟨w.heap.size, 2, none⟩ (.int .i64 (cnt : Int)) := ⟨_, rfl⟩
          have HK9 : Blk w9 w.heap.size 50 #[.slice An ns.length cn, .slice Ar rs.length cr, .int .i64 (cnt : Int)] := by rw [hw9]; exact (((HK8.out.put 0 _).put 1 _).put 2 _)
          have HB9 : Below w.heap.size w w9 := by rw [hw9]; exact (((HB8.out).setCell (p := ⟨w.heap.size, 0, none⟩) (Nat.le_refl _) _).setCell (p := ⟨w.heap.size, 1, none⟩) (Nat.le_refl _) _).setCell (p := ⟨w.heap.size, 2, none⟩) (Nat.le_refl _) _
          have hlw : w.heap.size < w2.heap.size := by omega
          have HO9 : w9.ownsRow w2.heap.size 9 1 (.slice An ns.length cn) ns.length (ns.map Value.string) := by rw [hw9]; exact ownsRow_setCell_below (ownsRow_setCell_below (ownsRow_setCell_below HO8.out hlw _) hlw _) hlw _
          have HR9 : RrOwn w9 w2.heap.size (.slice Ar rs.length cr) rs := by rw [hw9]; exact HR8.out.agree fun k h1 h2 => by rw [Below.heap_setCell _ _ _ _ (by show k ≠ w.heap.size; omega), Below.heap_setCell _ _ _ _ (by show k ≠ w.heap.size; omega), Below.heap_setCell _ _ _ _ (by show k ≠ w.heap.size; omega)]
          rw [← hw9]
          clear hw9
          have r0 := HK9.cell 0
          have r1 := HK9.cell 1
          have r2 := HK9.cell 2
          simp at r0 r1 r2
          refine bodyPost_ret (v := .tuple #[.agg #[.slice An ns.length cn, .slice Ar rs.length cr, .int .i64 (cnt : Int)], .int .i64 0]) (by simp [results, Try.results22, go_sem, r0, r1, r2]) rfl ?_
          exact ⟨An, cn, ns, Ar, cr, rs, cnt, 0, rfl, Rt.own HO9 HZ.out, HR9.rd rfl, HB9, .inl ⟨HSays.out, rfl⟩⟩
        · have HP := hide (HCand.out.no (by rw [HX.out]; intro h; injection h with _ h; exact hfl h))
          rw [show decide (fl = l) = false from decide_eq_false hfl]
          clear hfl
          have k0 := HK8.out.cell 0
          have k1 := HK8.out.cell 1
          have k2 := HK8.out.cell 2
          have f0' := HK8.out.frozen 0
          have f1' := HK8.out.frozen 1
          have f2' := HK8.out.frozen 2
          simp at k0 k1 k2
          go_wp2_with fail
          obtain ⟨w9, hw9⟩ : ∃ w9, w9 = ((w8.setCell ⟨w.heap.size, 0, none⟩ (.slice none 0 0)).setCell ⟨w.heap.size, 1, none⟩ (.slice none 0 0)).setCell ⟨w.heap.size, 2, none⟩ (.int .i64 0) := ⟨_, rfl⟩
          have HK9 : Blk w9 w.heap.size 50 #[.slice none 0 0, .slice none 0 0, .int .i64 0] := by rw [hw9]; exact (((HK8.out.put 0 _).put 1 _).put 2 _)
          have HB9 : Below w.heap.size w w9 := by rw [hw9]; exact (((HB8.out).setCell (p := ⟨w.heap.size, 0, none⟩) (Nat.le_refl _) _).setCell (p := ⟨w.heap.size, 1, none⟩) (Nat.le_refl _) _).setCell (p := ⟨w.heap.size, 2, none⟩) (Nat.le_refl _) _
          rw [← hw9]
          clear hw9
          have r0 := HK9.cell 0
          have r1 := HK9.cell 1
          have r2 := HK9.cell 2
          simp at r0 r1 r2
          refine bodyPost_ret (v := .tuple #[.agg #[.slice none 0 0, .slice none 0 0, .int .i64 0], .int .i64 390]) (by simp [results, Try.results22, go_sem, r0, r1, r2]) rfl ?_
          exact RdE.no HP.out HB9
      · have HP := hide (HCand.out.no (by rw [HX.out]; intro h; injection h with h _; exact hen h))
        have t2 : ((en : Int) != 0) = true := by simp; omega
        clear hen
        have k0 := HK7.out.cell 0
        have k1 := HK7.out.cell 1
        have k2 := HK7.out.cell 2
        have f0' := HK7.out.frozen 0
        have f1' := HK7.out.frozen 1
        have f2' := HK7.out.frozen 2
        simp at k0 k1 k2
        go_wp2_with fail
        obtain ⟨w9, hw9⟩ : ∃ w9, w9 = ((w7.setCell ⟨w.heap.size, 0, none⟩ (.slice none 0 0)).setCell ⟨w.heap.size, 1, none⟩ (.slice none 0 0)).setCell ⟨w.heap.size, 2, none⟩ (.int .i64 0) := ⟨_, rfl⟩
        have HK9 : Blk w9 w.heap.size 50 #[.slice none 0 0, .slice none 0 0, .int .i64 0] := by rw [hw9]; exact (((HK7.out.put 0 _).put 1 _).put 2 _)
        have HB9 : Below w.heap.size w w9 := by rw [hw9]; exact (((HB7.out).setCell (p := ⟨w.heap.size, 0, none⟩) (Nat.le_refl _) _).setCell (p := ⟨w.heap.size, 1, none⟩) (Nat.le_refl _) _).setCell (p := ⟨w.heap.size, 2, none⟩) (Nat.le_refl _) _
        rw [← hw9]
        clear hw9
        have r0 := HK9.cell 0
        have r1 := HK9.cell 1
        have r2 := HK9.cell 2
        simp at r0 r1 r2
        refine bodyPost_ret (v := .tuple #[.agg #[.slice none 0 0, .slice none 0 0, .int .i64 0], .int .i64 390]) (by simp [results, Try.results22, go_sem, r0, r1, r2]) rfl ?_
        exact RdE.no HP.out HB9
end Go.Proofs.Ytnieenlnpnaamaa
