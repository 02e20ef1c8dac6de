/-
  The walk of chanceryref29.Put: it is Wire.putR. Conditions: the body reads as a list.
-/
import Derived.Test.YtnieenlnpnaamaaPutAll
import Derived.Test.YtnieenlnpnaamaaRefAns
import Derived.Deep.RegionHeld3
namespace Go.Proofs.Ytnieenlnpnaamaa
open Go.RowKit

theorem four_succ (n : Nat) (hn : n < 4294967295) (w : World) : Calls Try.prog 36 #[.int .i64 ((n : Int) + 1)] w fun e w' => e = .returned (.slice (some ⟨w.heap.size, 0, none⟩) 4 4) ∧ w' = w.alloc (.cells ((Wire.four (1 + n)).map B8).toArray 5) := by
  have := four_any (1 + n) (by omega) w
  rw [show ((1 + n : Nat) : Int) = (n : Int) + 1 by omega] at this
  exact this
theorem four_own (n : Nat) (hn : n < 4294967295) (b : Nat) (w : World) (hb : b ≤ w.heap.size) : Calls Try.prog 36 #[.int .i64 ((n : Int) + 1)] w fun e w' => ∃ g, e = .returned (.slice (some ⟨g, 0, none⟩) 4 4) ∧ w'.ownsRow b 5 1 (.slice (some ⟨g, 0, none⟩) 4 4) 4 ((Wire.four (1 + n)).map B8) ∧ Below w.heap.size w w' := by
  refine (four_succ n hn w).mono ?_
  rintro e w3 ⟨rfl, hw3⟩
  rw [hw3]
  exact ⟨_, rfl, own_base (own_lit w 5 (Wire.four (1 + n)) 4 rfl (by unfold maxLen; omega)) hb, (Below.refl _ _).alloc (Nat.le_refl _) _⟩
set_option maxRecDepth 8000 in
set_option maxHeartbeats 1600000 in
theorem refPut_any (k : UInt8) (A : Option Addr) (n c : Nat) (l : List UInt8) (w : World) (hl : Rb w w.heap.size A n l) (hm : n ≤ 140737488355328) :
    Calls Try.prog 25 #[.agg #[.int .u8 (k.toNat : Int), .slice A n c]] w (BE w (Wire.putR k l)) := by
  have hlen := hl.len
  have HL := hide hl
  obtain ⟨w1, hw1⟩ : ∃ w1, w1 = w.alloc (.cells #[.int .u8 (k.toNat : Int), .slice A n c] 42) := ⟨_, rfl⟩
  have HB1 : Hid (Below w.heap.size w w1) := by rw [hw1]; exact (Below.refl _ _).alloc (Nat.le_refl _) _
  have HX : Hid (Blk w1 w.heap.size 42 #[.int .u8 (k.toNat : Int), .slice A n c]) := by rw [hw1]; exact Blk.new _ _ _
  have hs1 : w.heap.size < w1.heap.size := by rw [hw1]; simp
  cases hk : Wire.kindOk k with
  | false =>
    have HP : Hid (Wire.putR k l = (2, [])) := by show _ = _; unfold Wire.putR; rw [if_pos hk]
    have HK := hide hk
    clear hl hk hlen
    go_enter Try.func25, Try.ntmps25
    go_wp2_with fail
    rw [← hw1]
    clear hw1
    with_reducible refine (kind_any k _).mono ?_
    rintro e w' ⟨rfl, rfl⟩
    rw [HK.out]
    go_wp2_with fail
    go_ret2
    exact BE.err 2 HP.out HB1.out
  | true =>
    have HK := hide hk
    by_cases hn : 8191 < n
    · have HP : Hid (Wire.putR k l = (3, [])) := by show _ = _; unfold Wire.putR; rw [if_neg (by simp [hk]), if_pos (by omega)]
      have t1 : decide ((8191 : Int) < (n : Int)) = true := by simp; omega
      clear hl hk hlen
      go_enter Try.func25, Try.ntmps25
      go_wp2_with fail
      rw [← hw1]
      clear hw1
      with_reducible refine (kind_any k _).mono ?_
      rintro e w' ⟨rfl, rfl⟩
      rw [HK.out]
      have x1 := HX.out.cell 1
      simp at x1
      go_wp2_with fail
      go_ret2
      exact BE.err 3 HP.out HB1.out
    · have HP : Hid (Wire.putR k l = (0, Wire.four (1 + n) ++ [k] ++ l)) := by show _ = _; unfold Wire.putR; rw [if_neg (by simp [hk]), if_neg (by omega), ← hlen]; unfold Wire.put; simp
      have t1 : decide ((8191 : Int) < (n : Int)) = false := by simp; omega
      have hn2 : n ≤ 8191 := by omega
      clear hl hk hlen
      go_enter Try.func25, Try.ntmps25
      go_wp2_with fail
      rw [← hw1]
      clear hw1
      with_reducible refine (kind_any k _).mono ?_
      rintro e w' ⟨rfl, rfl⟩
      rw [HK.out]
      have x0 := HX.out.cell 0
      have x1 := HX.out.cell 1
      simp at x0 x1
      obtain ⟨i8, hi8, h80, h81, h82⟩ := info_parts info8
      have v1 : IntKind.i64.wrap ((n : Int) + 1) = (n : Int) + 1 := IntWalk.i64_in _ (by omega)
      go_upto_region 5 with fail
      go_cut [4] (fun v wx => wx.ownsRow w1.heap.size 5 1 v 5 ((Wire.four (1 + n) ++ [k]).map B8) ∧ Below w1.heap.size w1 wx)
      case first =>
        have hx0 : w.heap.size < w1.heap.size := hs1
        go_region_held3 (fun w' => w'.cell? ⟨w.heap.size, 0, none⟩ = some (.int .u8 (k.toNat : Int)) ∧ w'.cell? ⟨w.heap.size, 1, none⟩ = some (.slice A n c)) (first | (exact ⟨(HB9.out.cell (p := ⟨w.heap.size, 0, none⟩) hx0).trans x0, (HB9.out.cell (p := ⟨w.heap.size, 1, none⟩) hx0).trans x1⟩) | (exact ⟨(HB3.out.cell (p := ⟨w.heap.size, 0, none⟩) hx0).trans x0, (HB3.out.cell (p := ⟨w.heap.size, 1, none⟩) hx0).trans x1⟩) | go_keep) ((first | (refine step_append_rd _ rfl (.tmp 17) (.tmp 20) 22 rfl w1.heap.size 5 i8 (.int .u8 0) 1 1 Try.underlying22 hi8 h80 h81 h82 rfl (by omega) _ 4 ((Wire.four (1 + n)).map B8) rfl (by first | exact own_agree HO3.out fun _ _ => rfl | exact own_agree (HO3.out.alloc (.cells #[B8 k] 5)) fun _ _ => rfl) (w3.heap.size + 1) _ 1 1 [B8 k] rfl (by first | exact (Rd.lit w3 5 [B8 k]).keep fun _ _ => rfl | exact (((Rd.lit w1 5 [B8 k]).keep (fun p hp => HB3w.out.cell (p := p) (Nat.lt_of_lt_of_le hp (by simp)))).keep fun _ _ => rfl).more (by have := HB3w.out.size; simp at this; omega)) (by simp; rfl) (by unfold maxLen; omega) (by omega) (by first | exact HB3.out.size | exact Nat.le_trans HB3.out.size (by simp)) ?_; intro v9 w9 hown9 hb9 hg9; have HO9 := hide hown9; have HB9 : Hid (Below w1.heap.size w1 w9) := (by first | exact HB3.out.trans ⟨hb9.os, hb9.tape, hb9.output, hb9.size, hb9.block⟩ | exact (HB3.out.alloc HB3.out.size (.cells #[B8 k] 5)).trans ⟨hb9.os, hb9.tape, hb9.output, hb9.size, hb9.block⟩); clear hown9 hb9 hg9) | (go_at_call 36; refine (four_own n (by omega) w1.heap.size _ (by simp)).mono ?_; rintro e w3 ⟨g4, rfl, hown3, hb3⟩; have HO3 := hide hown3; have HB3w := hide hb3; have HB3 : Hid (Below w1.heap.size w1 w3) := (by first | exact ((Below.refl w1.heap.size w1).drew).trans (hb3.mono (by simp)) | exact (((Below.refl w1.heap.size w1).alloc (Nat.le_refl _) _).drew).trans (hb3.mono (by simp))); clear hown3 hb3)))
        all_goals
          go_wp2_with fail
          go_meet
          exact ⟨by rw [List.map_append]; exact HO9.out, HB9.out⟩
      case rest =>
        obtain ⟨hown, hb⟩ := hcut
        obtain ⟨w4, hw4⟩ : ∃ w4, w4 = wc := ⟨_, rfl⟩
        subst hw4
        have HO := hide hown
        have HB4 := hide hb
        have HX4 := hide (HX.out.below hb hs1)
        have hs4 := hb.size
        have y1 := HX4.out.cell 1
        simp at y1
        clear hown hb x0 x1
        obtain ⟨A4, c4, rfl⟩ := own_sl HO.out
        have HL4 := hide ((HL.out.below HB1.out (Nat.le_refl _)).below HB4.out (Nat.le_of_lt hs1))
        go_wp2_with (at_builtin; refine wpList_app _ bt rfl (.tmp 22) (.tmp 24) rfl w1.heap.size _ 5 (Wire.four (1 + n) ++ [k]) rfl HO.out _ A n c l rfl HL4.out (by omega) (by omega) ?_; intro v5 w5 hown5 hb5 hg5; have HO5 := hide hown5; have HB5 := hide (HB4.out.trans hb5); clear hown5 hb5 hg5)
        obtain ⟨A5, c5, rfl⟩ := own_sl HO5.out
        go_ret2
        refine BE.mk' HP.out ?_ (own_base HO5.out (Nat.le_of_lt hs1)) (HB1.out.trans (HB5.out.mono (Nat.le_of_lt hs1)))
        rw [List.length_append, HL.out.len]
        simp [Wire.four]
end Go.Proofs.Ytnieenlnpnaamaa
