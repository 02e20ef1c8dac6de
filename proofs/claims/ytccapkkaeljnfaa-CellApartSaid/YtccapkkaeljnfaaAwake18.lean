/-
  The walk of chancerylaw18.awake: it returns true. Conditions: none.
-/
import Derived.Test.YtccapkkaeljnfaaSame
namespace Go.Proofs.Ytccapkkaeljnfaa
open Go.RowKit

def aw : List Cell.Val := [⟨2, 1, ⟨#[]⟩⟩, ⟨4, 0, ⟨#[97]⟩⟩, ⟨0, 0, ⟨#[]⟩⟩]
def awB : List UInt8 := [3, 2, 0, 0, 0, 0, 0, 0, 0, 1, 4, 1, 97, 0]
theorem aw_ok : ∀ v ∈ aw, v.s.size ≤ maxLen ∧ -9223372036854775808 ≤ v.n ∧ v.n ≤ 9223372036854775807 := by
  intro v hv
  simp only [aw, List.mem_cons, List.not_mem_nil, or_false] at hv
  rcases hv with rfl | rfl | rfl
  · exact ⟨by decide, by decide, by decide⟩
  · exact ⟨by decide, by decide, by decide⟩
  · exact ⟨by decide, by decide, by decide⟩
theorem aw_row : Cell.row aw = (0, awB) := by rfl
theorem aw_read : Cell.read awB = some aw := Cell.row_read aw_row fun v hv => (aw_ok v hv).2
theorem aw_key : Cell.key ⟨2, -1, ⟨#[]⟩⟩ = (0, ([2, 127, 255, 255, 255, 255, 255, 255, 255] : List UInt8)) := by rfl
theorem aw_rowKey : Cell.rowKey 1 (⟨#[116]⟩ : ByteArray).data.toList ⟨1, 1, ⟨#[]⟩⟩ = (0, [114, 1, 116, 0, 1, 1]) := by rfl
theorem aw_lit (w : World) (g : Nat) (hg : g = w.heap.size) : Rv (w.alloc (.cells #[.int .u8 2, .int .i64 1, .string ⟨#[]⟩, .int .u8 4, .int .i64 0, .string ⟨#[97]⟩, .int .u8 0, .int .i64 0, .string ⟨#[]⟩] 36)) (w.alloc (.cells #[.int .u8 2, .int .i64 1, .string ⟨#[]⟩, .int .u8 4, .int .i64 0, .string ⟨#[97]⟩, .int .u8 0, .int .i64 0, .string ⟨#[]⟩] 36)).heap.size (some ⟨g, 0, none⟩) 3 aw := by
  subst hg
  refine ⟨⟨rfl, fun _ => ?_⟩, aw_ok⟩
  obtain ⟨b, off, h1, h2, h3⟩ := (Rd.lit w 36 (vcells aw) (0, 0)).2 (by show 0 < 9; omega)
  exact ⟨b, off, h1, by simpa using h2, h3⟩

def kB : List UInt8 := [2, 127, 255, 255, 255, 255, 255, 255, 255]
def pB : List UInt8 := [114, 1, 116, 0, 1, 1]
theorem kB_cells : (kB.map B8).toArray = #[.int .u8 2, .int .u8 127, .int .u8 255, .int .u8 255, .int .u8 255, .int .u8 255, .int .u8 255, .int .u8 255, .int .u8 255] := by rfl
theorem pB_cells : (pB.map B8).toArray = #[.int .u8 114, .int .u8 1, .int .u8 116, .int .u8 0, .int .u8 1, .int .u8 1] := by rfl
theorem kB_lit (w : World) : Rb (w.alloc (.cells #[.int .u8 2, .int .u8 127, .int .u8 255, .int .u8 255, .int .u8 255, .int .u8 255, .int .u8 255, .int .u8 255, .int .u8 255] 5)) (w.heap.size + 1) (some ⟨w.heap.size, 0, none⟩) 9 kB := by
  rw [← kB_cells]
  have := Rb.lit w 5 kB
  exact this.more (by simp)
theorem pB_lit (w : World) : Rb (w.alloc (.cells #[.int .u8 114, .int .u8 1, .int .u8 116, .int .u8 0, .int .u8 1, .int .u8 1] 5)) (w.heap.size + 1) (some ⟨w.heap.size, 0, none⟩) 6 pB := by
  rw [← pB_cells]
  have := Rb.lit w 5 pB
  exact this.more (by simp)

set_option maxRecDepth 8000 in
set_option maxHeartbeats 600000 in
theorem awake_any (w : World) : Calls Try.prog 17 #[] w fun e w' => e = .returned (.bool true) ∧ Below w.heap.size w w' := by
  go_enter Try.func17, Try.ntmps17
  go_wp2_with fail
  refine (row_any _ 3 3 aw _ (aw_lit _ _ (by simp)) (by omega)).mono ?_
  rintro e w1 ⟨v1, rfl, ho1, hb1⟩
  rw [aw_row] at ho1 ⊢
  replace ho1 : w1.ownsRow _ 5 1 v1 14 (awB.map B8) := ho1
  have hk1 : Blk w1 w.heap.size 36 #[.int .u8 2, .int .i64 1, .string ⟨#[]⟩] := Blk.below (((Blk.new w _ _).alloc _).alloc _) hb1 (by simp; omega)
  have hk2 : Blk w1 (w.heap.size + 1) 36 #[.int .u8 4, .int .i64 0, .string ⟨#[97]⟩] := by
    refine Blk.below ?_ hb1 (by simp)
    refine Blk.alloc ?_ _
    have := Blk.new (w.alloc (.cells #[.int .u8 2, .int .i64 1, .string ⟨#[]⟩] 36)) 36 #[.int .u8 4, .int .i64 0, .string ⟨#[97]⟩]
    simpa using this
  have hb1' : Below w.heap.size w w1 := ((((Below.refl _ _).alloc (Nat.le_refl _) _).alloc (by simp) _).alloc (by simp; omega) _).trans (hb1.mono (by simp; omega))
  have hz1 : w.heap.size + 3 ≤ w1.heap.size := by have := hb1.size; simpa using this
  have ho1' := own_base ho1 (show w.heap.size + 3 ≤ _ by simp)
  obtain ⟨A1, c1, rfl, -, hc1, hc2⟩ := own_form ho1
  have HO1 := hide ho1'
  have HK1 := hide hk1
  have HK2 := hide hk2
  have HB1 := hide hb1'
  clear ho1 ho1' hk1 hk2 hb1' hb1
  go_wp2_with fail
  refine (read_any A1 14 c1 awB w1 (Rb.own HO1.out) hc1 (by unfold maxLen at hc2; omega)).mono ?_
  rintro e w2 ⟨v2, e2, rfl, he2, ho2, hb2, -⟩
  rw [aw_read] at he2 ho2
  obtain rfl : e2 = 0 := he2
  replace ho2 : w2.ownsRow w1.heap.size 36 3 v2 3 (vcells aw) := ho2
  obtain ⟨A2, c2, rfl⟩ := own_sl ho2
  have HO2 := hide ho2
  have HK1' := hide (HK1.out.below hb2 (by omega))
  have HK2' := hide (HK2.out.below hb2 (by omega))
  have HB2 := hide (HB1.out.trans (hb2.mono (by omega)))
  have hz2 := hb2.size
  clear ho2 hb2 HK1 HK2 HB1
  go_wp2_with fail
  refine (key_any 2 (-1) ⟨#[]⟩ w2).mono ?_
  rintro e w3 ⟨v3, rfl, ho3, hb3⟩
  rw [aw_key] at ho3 ⊢
  obtain ⟨A3, c3, rfl⟩ := own_sl ho3
  have HO3 := hide ho3
  have HO2' := hide (own_below HO2.out hb3)
  have HK1 := hide (HK1'.out.below hb3 (by omega))
  have HK2 := hide (HK2'.out.below hb3 (by omega))
  have HB3 := hide (HB2.out.trans (hb3.mono (by omega)))
  have hz3 := hb3.size
  clear ho3 hb3 HK1' HK2' HB2 HO2
  go_wp2_with fail
  refine (rowKey_any 1 ⟨#[116]⟩ 1 1 ⟨#[]⟩ w3 (by decide)).mono ?_
  rintro e w4 ⟨v4, rfl, ho4, hb4⟩
  rw [aw_rowKey] at ho4 ⊢
  obtain ⟨A4, c4, rfl⟩ := own_sl ho4
  have HO4 := hide ho4
  have HO2 := hide (own_below HO2'.out hb4)
  have HO3' := hide (own_below HO3.out hb4)
  have HK1' := hide (HK1.out.below hb4 (by omega))
  have HK2' := hide (HK2.out.below hb4 (by omega))
  have HB4 := hide (HB3.out.trans (hb4.mono (by omega)))
  have hz4 := hb4.size
  clear ho4 hb4 HK1 HK2 HB3 HO2' HO3
  go_wp2_with fail
  refine (read_any none 0 0 [] w4 Rb.nil (by omega) (by omega)).mono ?_
  rintro e w5 ⟨v5, e5, rfl, he5, ho5, hb5, -⟩
  obtain rfl : e5 = 280 := he5
  obtain ⟨A5, c5, rfl⟩ := own_sl ho5
  have hk1 := HK1'.out.below hb5 (by omega)
  have hk2 := HK2'.out.below hb5 (by omega)
  have HR2 : Hid (Rv w5 w5.heap.size A2 3 aw) := Rv.own (own_below HO2.out hb5) aw_ok
  have HR3 : Hid (Rb w5 w5.heap.size A3 9 kB) := Rb.own (own_below HO3'.out hb5)
  have HR4 : Hid (Rb w5 w5.heap.size A4 6 pB) := Rb.own (own_below HO4.out hb5)
  have HB5 := hide (HB4.out.trans (hb5.mono (by omega)))
  have hz5 := hb5.size
  have d0 : w5.cell? ⟨w.heap.size, 0, none⟩ = some (.int .u8 2) := hk1.cell 0
  have d1 : w5.cell? ⟨w.heap.size, 1, none⟩ = some (.int .i64 1) := hk1.cell 1
  have d2 : w5.cell? ⟨w.heap.size, 2, none⟩ = some (.string ⟨#[]⟩) := hk1.cell 2
  have g0 : w5.cell? ⟨w.heap.size + 1, 0, none⟩ = some (.int .u8 4) := hk2.cell 0
  have g1 : w5.cell? ⟨w.heap.size + 1, 1, none⟩ = some (.int .i64 0) := hk2.cell 1
  have g2 : w5.cell? ⟨w.heap.size + 1, 2, none⟩ = some (.string ⟨#[97]⟩) := hk2.cell 2
  clear ho5 hb5 hk1 hk2 HK1' HK2' HB4 HO2 HO3' HO4
  go_wp2_with fail
  refine (sameRow_any A2 _ 3 c2 3 3 aw aw _ w5.heap.size _ (HR2.out.keep fun p hp => World.cell?_alloc_lt w5 _ p hp) (aw_lit w5 _ rfl) (by omega)).mono ?_
  rintro e w6 ⟨b6, rfl, hb6, q, rfl⟩
  obtain rfl : b6 = true := hb6.2 rfl
  obtain ⟨w6, hw6⟩ : ∃ w6, w6 = (w5.alloc (.cells #[.int .u8 2, .int .i64 1, .string ⟨#[]⟩, .int .u8 4, .int .i64 0, .string ⟨#[97]⟩, .int .u8 0, .int .i64 0, .string ⟨#[]⟩] 36)).drewN q := ⟨_, rfl⟩
  have hs6 : w5.heap.size < w6.heap.size := by rw [hw6]; simp
  have HB6 : Hid (Below w.heap.size w w6) := by rw [hw6]; exact below_drewN (HB5.out.alloc (by omega) _) q
  have HR3' : Hid (Rb w6 w5.heap.size A3 9 kB) := by rw [hw6]; exact (HR3.out.keep fun p hp => World.cell?_alloc_lt w5 _ p hp).drewN q
  have HR4' : Hid (Rb w6 w5.heap.size A4 6 pB) := by rw [hw6]; exact (HR4.out.keep fun p hp => World.cell?_alloc_lt w5 _ p hp).drewN q
  rw [← hw6]
  clear hw6 hb6 HR2 HR3 HR4 HB5
  go_wp2_with fail
  with_reducible refine (sameBytes_any A3 (some ⟨w6.heap.size, 0, none⟩) 9 c3 9 9 kB kB (w6.alloc (.cells #[.int .u8 2, .int .u8 127, .int .u8 255, .int .u8 255, .int .u8 255, .int .u8 255, .int .u8 255, .int .u8 255, .int .u8 255] 5)) w5.heap.size (w6.heap.size + 1) (HR3'.out.keep fun p hp => World.cell?_alloc_lt w6 _ p (by omega)) (kB_lit w6) (by unfold maxLen; omega)).mono ?_
  rintro e w7 ⟨rfl, q2, rfl⟩
  rw [show (kB == kB) = true from rfl]
  obtain ⟨w7, hw7⟩ : ∃ w7, w7 = (w6.alloc (.cells #[.int .u8 2, .int .u8 127, .int .u8 255, .int .u8 255, .int .u8 255, .int .u8 255, .int .u8 255, .int .u8 255, .int .u8 255] 5)).drewN q2 := ⟨_, rfl⟩
  have hs7 : w6.heap.size < w7.heap.size := by rw [hw7]; simp
  have HB7 : Hid (Below w.heap.size w w7) := by rw [hw7]; exact below_drewN (HB6.out.alloc (by omega) _) q2
  have HR4 : Hid (Rb w7 w5.heap.size A4 6 pB) := by rw [hw7]; exact (HR4'.out.keep fun p hp => World.cell?_alloc_lt w6 _ p (by omega)).drewN q2
  rw [← hw7]
  clear hw7 HR3' HR4' HB6
  go_wp2_with fail
  with_reducible refine (sameBytes_any A4 (some ⟨w7.heap.size, 0, none⟩) 6 c4 6 6 pB pB (w7.alloc (.cells #[.int .u8 114, .int .u8 1, .int .u8 116, .int .u8 0, .int .u8 1, .int .u8 1] 5)) w5.heap.size (w7.heap.size + 1) (HR4.out.keep fun p hp => World.cell?_alloc_lt w7 _ p (by omega)) (pB_lit w7) (by unfold maxLen; omega)).mono ?_
  rintro e w8 ⟨rfl, q3, rfl⟩
  rw [show (pB == pB) = true from rfl]
  go_wp2_with fail
  go_ret
  exact ⟨rfl, below_drewN (HB7.out.alloc (by omega) _) q3⟩
end Go.Proofs.Ytccapkkaeljnfaa
