/-
  The walk of chancerylaw13.VerkeyNumbers: it returns true. Conditions: none. (printed by vernum.py)
-/
import Derived.Test.YtlkeibpaleiemaaVerLaws
import Derived.Test.YtlkeibpaleiemaaGrow
import Derived.Laws.MakeOwn
namespace Go.Proofs.Ytlkeibpaleiemaa
open Go.RowKit

/-- So many zero bytes. -/
def zs (n : Nat) : List UInt8 := List.replicate n 0
theorem zs_len (n : Nat) : (zs n).length = n := by simp [zs]
def zc (n : Nat) : Array Value := ((zs n).map B8).toArray
theorem make_z (n : Nat) (hn : n ≤ 1000) (w : World) : (Instr.makeSlice 22 (.int .i64 (n : Int)) (.int .i64 (n : Int))).run Try.prog w = .ok (.slice (some ⟨w.heap.size, 0, none⟩) n n) (w.alloc (.cells (zc n) 5)) := by
  obtain ⟨i0, hi0, hz0, hz1, hz2⟩ := info_parts info8
  have h := run_make (P := Try.prog) w 22 5 i0 (.int .u8 0) Try.underlying22 hi0 hz0 .i64 .i64 n n (by omega) (by omega) (by rw [hz2]; omega) (by omega)
  simp only [Int.toNat_natCast] at h
  rw [h, hz1]
  congr 3
  unfold zc zs madeCells
  simp [B8, Value.cells]
  apply Array.ext
  · simp
  · intro i h1 h2
    simp [Nat.mod_one]
theorem rb_block {w : World} {g : Nat} {t : TypeId} {m : Nat × Nat} {l : List UInt8} (h : w.heap[g]? = some (.cells (l.map B8).toArray t m)) : Rb w w.heap.size (some ⟨g, 0, none⟩) l.length l := by
  refine ⟨by simp, fun _ => ⟨g, 0, rfl, lt_of_block h, fun j u hu => ?_⟩⟩
  rw [Nat.zero_add, cell_of_row w g j _ t m h]
  simpa using hu
theorem rb_zs {w : World} {g n : Nat} {t : TypeId} {m : Nat × Nat} (h : w.heap[g]? = some (.cells (zc n) t m)) : Rb w w.heap.size (some ⟨g, 0, none⟩) n (zs n) := by
  have := rb_block (l := zs n) h
  rw [zs_len] at this
  exact this
def noT : Told := fun _ _ _ => False
theorem noT_one : noT.One := fun _ _ _ _ h => h.elim
theorem bel_lives (w : World) : Lives (fun w' => Below w.heap.size w w') := fun _ _ h hb => h.trans (hb.mono h.size)

/-- The pieces of the last loop. -/
structure Eight (w wr : World) (G g1 g2 g3 g4 g5 g6 g7 : Nat) : Prop where
  bel : Below w.heap.size w wr
  out : Blk wr G 22 #[.slice none 0 0, .slice (some ⟨g1, 0, none⟩) 2 2, .slice (some ⟨g2, 0, none⟩) 11 11, .slice (some ⟨g3, 0, none⟩) 10 10, .slice (some ⟨g4, 0, none⟩) 11 11, .slice (some ⟨g5, 0, none⟩) 13 13, .slice (some ⟨g6, 0, none⟩) 10 10, .slice (some ⟨g7, 0, none⟩) 11 11]
  r1 : Rb wr wr.heap.size (some ⟨g1, 0, none⟩) 2 [97, 0]
  r2 : Rb wr wr.heap.size (some ⟨g2, 0, none⟩) 11 [97, 0, 1, 255, 255, 255, 255, 255, 255, 255, 250]
  r3 : Rb wr wr.heap.size (some ⟨g3, 0, none⟩) 10 [0, 0, 255, 255, 255, 255, 255, 255, 255, 250]
  r4 : Rb wr wr.heap.size (some ⟨g4, 0, none⟩) 11 [97, 0, 0, 0, 0, 0, 0, 0, 0, 0, 0]
  r5 : Rb wr wr.heap.size (some ⟨g5, 0, none⟩) 13 [97, 0, 5, 0, 0, 255, 255, 255, 255, 255, 255, 255, 250]
  r6 : Rb wr wr.heap.size (some ⟨g6, 0, none⟩) 10 (zs 10)
  r7 : Rb wr wr.heap.size (some ⟨g7, 0, none⟩) 11 (zs 11)
theorem Eight.below {w wr w' : World} {G g1 g2 g3 g4 g5 g6 g7 : Nat} (h : Eight w wr G g1 g2 g3 g4 g5 g6 g7) (hb : Below wr.heap.size wr w') : Eight w w' G g1 g2 g3 g4 g5 g6 g7 :=
  ⟨h.bel.trans (hb.mono h.bel.size), h.out.below hb h.out.lt, (h.r1.below hb (Nat.le_refl _)).more hb.size, (h.r2.below hb (Nat.le_refl _)).more hb.size, (h.r3.below hb (Nat.le_refl _)).more hb.size, (h.r4.below hb (Nat.le_refl _)).more hb.size, (h.r5.below hb (Nat.le_refl _)).more hb.size, (h.r6.below hb (Nat.le_refl _)).more hb.size, (h.r7.below hb (Nat.le_refl _)).more hb.size⟩
theorem none0 : vpart [] = none := by decide +kernel
theorem none1 : vpart [97, 0] = none := by decide +kernel
theorem none2 : vpart [97, 0, 1, 255, 255, 255, 255, 255, 255, 255, 250] = none := by decide +kernel
theorem none3 : vpart [0, 0, 255, 255, 255, 255, 255, 255, 255, 250] = none := by decide +kernel
theorem none4 : vpart [97, 0, 0, 0, 0, 0, 0, 0, 0, 0, 0] = none := by decide +kernel
theorem none5 : vpart [97, 0, 5, 0, 0, 255, 255, 255, 255, 255, 255, 255, 250] = none := by decide +kernel
theorem none6 : vpart (zs 10) = none := by decide +kernel
theorem none7 : vpart (zs 11) = none := by decide +kernel
theorem long_join : (vjoin (zs 128) 4611686018427387904).length = 266 := by decide +kernel
theorem long_part : vpart (vjoin (zs 128) 4611686018427387904) = some (zs 128, 4611686018427387904) := (vpart_some _ _ _).2 ⟨by decide +kernel, rfl⟩
set_option maxRecDepth 20000 in
set_option maxHeartbeats 12800000 in
theorem numbers_any (w : World) : Calls Try.prog 4 #[] w fun e w' => e = .returned (.bool true) ∧ Below w.heap.size w w' := by
  have HB : Hid (Below w.heap.size w w) := Below.refl _ _
  have m128 : ∀ w : World, (Instr.makeSlice 22 (.int .i64 128) (.int .i64 128)).run Try.prog w = .ok (.slice (some ⟨w.heap.size, 0, none⟩) 128 128) (w.alloc (.cells (zc 128) 5)) := fun w => make_z 128 (by omega) w
  have m129 : ∀ w : World, (Instr.makeSlice 22 (.int .i64 129) (.int .i64 129)).run Try.prog w = .ok (.slice (some ⟨w.heap.size, 0, none⟩) 129 129) (w.alloc (.cells (zc 129) 5)) := fun w => make_z 129 (by omega) w
  have m10 : ∀ w : World, (Instr.makeSlice 22 (.int .i64 10) (.int .i64 10)).run Try.prog w = .ok (.slice (some ⟨w.heap.size, 0, none⟩) 10 10) (w.alloc (.cells (zc 10) 5)) := fun w => make_z 10 (by omega) w
  have m11 : ∀ w : World, (Instr.makeSlice 22 (.int .i64 11) (.int .i64 11)).run Try.prog w = .ok (.slice (some ⟨w.heap.size, 0, none⟩) 11 11) (w.alloc (.cells (zc 11) 5)) := fun w => make_z 11 (by omega) w
  go_enter Try.func4, Try.ntmps4
  go_wp2_with fail
  have HL := hide (Rb.lit w 5 [97])
  refine (first_any _ 1 1 [97] _ HL.out (by omega)).mono ?_
  rintro e w1 ⟨v1, rfl, hown, hb⟩
  rw [show vtext [97] 0 = [97, 0, 0] by decide] at hown
  have HO := hide hown
  replace HB := hide (show Below w.heap.size w w1 from (HB.out.alloc HB.out.size _).trans (hb.mono (by simp)))
  clear hown hb HL
  obtain ⟨A1, c1, rfl, _⟩ := own_form HO.out
  go_wp2_with fail
  refine (sameBytes_any A1 _ _ c1 3 3 _ [97, 0, 0] _ _ _ (Rb.own (HO.out.alloc _)) (Rb.lit w1 5 _)).mono ?_
  rintro e wq ⟨rfl, rfl⟩
  rw [show (([97, 0, 0] : List UInt8) == [97, 0, 0]) = true by decide]
  clear HO
  obtain ⟨x1, hx1⟩ : ∃ z, z = w1.alloc (.cells (List.map B8 [97, 0, 0]).toArray 5) := ⟨_, rfl⟩
  rw [← hx1]
  replace HB := hide (show Below w.heap.size w x1 by rw [hx1]; exact HB.out.alloc HB.out.size _)
  clear hx1
  go_wp2_with fail
  have HL := hide (Rb.lit x1 5 [97])
  refine (behind_any _ 1 1 [97] _ HL.out (by omega)).mono ?_
  rintro e w2 ⟨v2, rfl, hown, hb⟩
  rw [show vtext [97] 1 = [97, 0, 1] by decide] at hown
  have HO := hide hown
  replace HB := hide (show Below w.heap.size w w2 from (HB.out.alloc HB.out.size _).trans (hb.mono (by simp; have := HB.out.size; omega)))
  clear hown hb HL
  obtain ⟨A2, c2, rfl, _⟩ := own_form HO.out
  go_wp2_with fail
  refine (sameBytes_any A2 _ _ c2 3 3 _ [97, 0, 1] _ _ _ (Rb.own (HO.out.alloc _)) (Rb.lit w2 5 _)).mono ?_
  rintro e wq ⟨rfl, rfl⟩
  rw [show (([97, 0, 1] : List UInt8) == [97, 0, 1]) = true by decide]
  clear HO
  obtain ⟨x2, hx2⟩ : ∃ z, z = w2.alloc (.cells (List.map B8 [97, 0, 1]).toArray 5) := ⟨_, rfl⟩
  rw [← hx2]
  replace HB := hide (show Below w.heap.size w x2 by rw [hx2]; exact HB.out.alloc HB.out.size _)
  clear hx2
  go_wp2_with fail
  refine (first_any none 0 0 [] x2 Rb.nil (by omega)).mono ?_
  rintro e w3 ⟨v3, rfl, hown, hb⟩
  rw [show vtext [] 0 = [0, 0] by decide] at hown
  have HO := hide hown
  replace HB := hide (show Below w.heap.size w w3 from HB.out.trans (hb.mono HB.out.size))
  clear hown hb
  obtain ⟨A3, c3, rfl, _⟩ := own_form HO.out
  go_wp2_with fail
  refine (sameBytes_any A3 _ _ c3 2 2 _ [0, 0] _ _ _ (Rb.own (HO.out.alloc _)) (Rb.lit w3 5 _)).mono ?_
  rintro e wq ⟨rfl, rfl⟩
  rw [show (([0, 0] : List UInt8) == [0, 0]) = true by decide]
  clear HO
  obtain ⟨x3, hx3⟩ : ∃ z, z = w3.alloc (.cells (List.map B8 [0, 0]).toArray 5) := ⟨_, rfl⟩
  rw [← hx3]
  replace HB := hide (show Below w.heap.size w x3 by rw [hx3]; exact HB.out.alloc HB.out.size _)
  clear hx3
  go_wp2_with fail
  have HL := hide (rb_zs (w := x3.alloc (.cells (zc 128) 5)) (g := x3.heap.size) (n := 128) (heap_alloc_new x3 _))
  refine (join_yes _ 128 128 (zs 128) 4611686018427387904 _ HL.out (by omega) (by omega) (by omega)).mono ?_
  rintro e w4 ⟨v4, rfl, hown, hb⟩
  rw [long_join] at hown
  have HO4 := hide hown
  replace HB := hide (show Below w.heap.size w w4 from (HB.out.alloc HB.out.size _).trans (hb.mono (by simp; have := HB.out.size; omega)))
  clear hown hb HL
  obtain ⟨A4, c4, rfl, _⟩ := own_form HO4.out
  go_wp2_with fail
  refine (join_no _ 129 129 1 _ (by omega)).mono ?_
  rintro e wq ⟨rfl, rfl⟩
  obtain ⟨x4, hx4⟩ : ∃ z, z = w4.alloc (.cells (zc 129) 5) := ⟨_, rfl⟩
  rw [← hx4]
  replace HB := hide (show Below w.heap.size w x4 by rw [hx4]; exact HB.out.alloc HB.out.size _)
  replace HO4 := hide (show x4.ownsRow _ _ _ _ _ _ by rw [hx4]; exact HO4.out.alloc _)
  clear hx4
  go_wp2_with fail
  refine (join_no none 0 0 1 x4 (by omega)).mono ?_
  rintro e wq ⟨rfl, rfl⟩
  go_wp2_with fail
  refine (join_no _ 1 1 (-1) _ (by omega)).mono ?_
  rintro e wq ⟨rfl, rfl⟩
  obtain ⟨x5, hx5⟩ : ∃ z, z = x4.alloc (.cells #[.int .u8 1] 5) := ⟨_, rfl⟩
  rw [← hx5]
  replace HB := hide (show Below w.heap.size w x5 by rw [hx5]; exact HB.out.alloc HB.out.size _)
  replace HO4 := hide (show x5.ownsRow _ _ _ _ _ _ by rw [hx5]; exact HO4.out.alloc _)
  clear hx5
  go_wp2_with fail
  refine (join_no _ 1 1 4611686018427387905 _ (by omega)).mono ?_
  rintro e wq ⟨rfl, rfl⟩
  obtain ⟨x6, hx6⟩ : ∃ z, z = x5.alloc (.cells #[.int .u8 1] 5) := ⟨_, rfl⟩
  rw [← hx6]
  replace HB := hide (show Below w.heap.size w x6 by rw [hx6]; exact HB.out.alloc HB.out.size _)
  replace HO4 := hide (show x6.ownsRow _ _ _ _ _ _ by rw [hx6]; exact HO4.out.alloc _)
  clear hx6
  go_wp2_with fail
  refine (part_some A4 266 c4 _ _ _ x6 (Rb.own HO4.out) (by omega) long_part).mono ?_
  rintro e w7 ⟨v7, rfl, hown, hb⟩
  rw [zs_len] at hown
  have HO7 := hide hown
  replace HB := hide (show Below w.heap.size w w7 from HB.out.trans (hb.mono HB.out.size))
  clear hown hb HO4
  obtain ⟨A7, c7, rfl, _⟩ := own_form HO7.out
  go_wp2_with fail
  clear HO7
  refine wp_region_growAll noT (fun w' => Below w.heap.size w w') w7.heap.size noT_one (bel_lives w) (by kernel_rfl) (by kernel_rfl) (by kernel_rfl) HB.out.drew (Nat.le_refl _) ?_
  refine wpGrow_make (some (2, 2)) (.cells #[.int .u8 97, .int .u8 0] 5) rfl (fun w' hS => ?_) fun g1 => ?_
  · go_simp
    rfl
  go_frame
  refine wpGrow_make (some (11, 11)) (.cells #[.int .u8 97, .int .u8 0, .int .u8 1, .int .u8 255, .int .u8 255, .int .u8 255, .int .u8 255, .int .u8 255, .int .u8 255, .int .u8 255, .int .u8 250] 5) rfl (fun w' hS => ?_) fun g2 => ?_
  · go_simp
    rfl
  go_frame
  refine wpGrow_make (some (10, 10)) (.cells #[.int .u8 0, .int .u8 0, .int .u8 255, .int .u8 255, .int .u8 255, .int .u8 255, .int .u8 255, .int .u8 255, .int .u8 255, .int .u8 250] 5) rfl (fun w' hS => ?_) fun g3 => ?_
  · go_simp
    rfl
  go_frame
  refine wpGrow_make (some (11, 11)) (.cells #[.int .u8 97, .int .u8 0, .int .u8 0, .int .u8 0, .int .u8 0, .int .u8 0, .int .u8 0, .int .u8 0, .int .u8 0, .int .u8 0, .int .u8 0] 5) rfl (fun w' hS => ?_) fun g4 => ?_
  · go_simp
    rfl
  go_frame
  refine wpGrow_make (some (13, 13)) (.cells #[.int .u8 97, .int .u8 0, .int .u8 5, .int .u8 0, .int .u8 0, .int .u8 255, .int .u8 255, .int .u8 255, .int .u8 255, .int .u8 255, .int .u8 255, .int .u8 255, .int .u8 250] 5) rfl (fun w' hS => ?_) fun g5 => ?_
  · go_simp
    rfl
  go_frame
  refine wpGrow_make (some (10, 10)) (.cells (zc 10) 5) rfl (fun w' hS => ?_) fun g6 => ?_
  · go_simp
    rfl
  go_frame
  refine wpGrow_make (some (11, 11)) (.cells (zc 11) 5) rfl (fun w' hS => ?_) fun g7 => ?_
  · go_simp
    rfl
  go_frame
  refine wpGrow_make (some (8, 8)) (.cells #[.slice none 0 0, .slice (some ⟨g1, 0, none⟩) 2 2, .slice (some ⟨g2, 0, none⟩) 11 11, .slice (some ⟨g3, 0, none⟩) 10 10, .slice (some ⟨g4, 0, none⟩) 11 11, .slice (some ⟨g5, 0, none⟩) 13 13, .slice (some ⟨g6, 0, none⟩) 10 10, .slice (some ⟨g7, 0, none⟩) 11 11] 22) rfl (fun w' hS => ?_) fun G => ?_
  · unfold shapeV
    go_simp
  go_frame
  refine wpGrow_read ?_ rfl (fun w' hS => ?_) ?_
  rotate_left
  · unfold shapeV
    go_simp
    rfl
  go_frame
  refine wpGrow_read ?_ rfl (fun w' hS => ?_) ?_
  rotate_left
  · go_simp
    rfl
  go_frame
  refine wpGrow_nil fun w8 hG => ?_
  obtain ⟨l8, -⟩ := hG.lies 7 G _ rfl
  obtain ⟨l1, -⟩ := hG.lies 0 g1 _ rfl
  obtain ⟨l2, -⟩ := hG.lies 1 g2 _ rfl
  obtain ⟨l3, -⟩ := hG.lies 2 g3 _ rfl
  obtain ⟨l4, -⟩ := hG.lies 3 g4 _ rfl
  obtain ⟨l5, -⟩ := hG.lies 4 g5 _ rfl
  obtain ⟨l6, -⟩ := hG.lies 5 g6 _ rfl
  obtain ⟨l7, -⟩ := hG.lies 6 g7 _ rfl
  have R1 := hide (rb_block (l := [97, 0]) l1)
  have R2 := hide (rb_block (l := [97, 0, 1, 255, 255, 255, 255, 255, 255, 255, 250]) l2)
  have R3 := hide (rb_block (l := [0, 0, 255, 255, 255, 255, 255, 255, 255, 250]) l3)
  have R4 := hide (rb_block (l := [97, 0, 0, 0, 0, 0, 0, 0, 0, 0, 0]) l4)
  have R5 := hide (rb_block (l := [97, 0, 5, 0, 0, 255, 255, 255, 255, 255, 255, 255, 250]) l5)
  have R6 := hide (rb_zs l6)
  have R7 := hide (rb_zs l7)
  replace HB := hide hG.s
  have HE := hide (show Eight w w8 G g1 g2 g3 g4 g5 g6 g7 from ⟨HB.out, l8, R1.out, R2.out, R3.out, R4.out, R5.out, R6.out, R7.out⟩)
  clear hG l1 l2 l3 l4 l5 l6 l7 l8 m128 m129 m10 m11
  unfold shapeV
  go_wp2_with fail
  go_loopw [110] (fun i wr => ∃ k : Nat, k ≤ 8 ∧ i = .int .i64 (k : Nat) ∧ Eight w wr G g1 g2 g3 g4 g5 g6 g7) (fun i _ => 8 - (intOf i).toNat)
  case atStart => exact ⟨0, by omega, rfl, HE.out⟩
  case round =>
    obtain ⟨k, hk, rfl, he⟩ := hrel
    replace HE := hide he
    clear he
    have hF := HE.out.out.frozen
    have hC := HE.out.out.cell
    rcases (show k = 0 ∨ k = 1 ∨ k = 2 ∨ k = 3 ∨ k = 4 ∨ k = 5 ∨ k = 6 ∨ k = 7 ∨ k = 8 by omega) with rfl | rfl | rfl | rfl | rfl | rfl | rfl | rfl | rfl
    · have hc : wr.cell? ⟨G, 0, none⟩ = some (.slice none 0 0) := hC 0
      have hf := hF 0
      clear hC hF
      go_wp2_with fail
      refine (part_none none 0 0 [] _ Rb.nil (by omega) none0).mono ?_
      rintro e w9 ⟨rfl, hb⟩
      replace HE := hide (HE.out.below hb)
      clear hb hc hf
      go_wp2_with fail
      go_roundw
      case rel => exact ⟨1, by omega, by go_num, HE.out⟩
      case measure => simp [intOf]
    · have hc : wr.cell? ⟨G, 1, none⟩ = some (.slice (some ⟨g1, 0, none⟩) 2 2) := hC 1
      have hf := hF 1
      clear hC hF
      go_wp2_with fail
      refine (part_none (some ⟨g1, 0, none⟩) 2 2 [97, 0] _ HE.out.r1 (by omega) none1).mono ?_
      rintro e w9 ⟨rfl, hb⟩
      replace HE := hide (HE.out.below hb)
      clear hb hc hf
      go_wp2_with fail
      go_roundw
      case rel => exact ⟨2, by omega, by go_num, HE.out⟩
      case measure => simp [intOf]
    · have hc : wr.cell? ⟨G, 2, none⟩ = some (.slice (some ⟨g2, 0, none⟩) 11 11) := hC 2
      have hf := hF 2
      clear hC hF
      go_wp2_with fail
      refine (part_none (some ⟨g2, 0, none⟩) 11 11 [97, 0, 1, 255, 255, 255, 255, 255, 255, 255, 250] _ HE.out.r2 (by omega) none2).mono ?_
      rintro e w9 ⟨rfl, hb⟩
      replace HE := hide (HE.out.below hb)
      clear hb hc hf
      go_wp2_with fail
      go_roundw
      case rel => exact ⟨3, by omega, by go_num, HE.out⟩
      case measure => simp [intOf]
    · have hc : wr.cell? ⟨G, 3, none⟩ = some (.slice (some ⟨g3, 0, none⟩) 10 10) := hC 3
      have hf := hF 3
      clear hC hF
      go_wp2_with fail
      refine (part_none (some ⟨g3, 0, none⟩) 10 10 [0, 0, 255, 255, 255, 255, 255, 255, 255, 250] _ HE.out.r3 (by omega) none3).mono ?_
      rintro e w9 ⟨rfl, hb⟩
      replace HE := hide (HE.out.below hb)
      clear hb hc hf
      go_wp2_with fail
      go_roundw
      case rel => exact ⟨4, by omega, by go_num, HE.out⟩
      case measure => simp [intOf]
    · have hc : wr.cell? ⟨G, 4, none⟩ = some (.slice (some ⟨g4, 0, none⟩) 11 11) := hC 4
      have hf := hF 4
      clear hC hF
      go_wp2_with fail
      refine (part_none (some ⟨g4, 0, none⟩) 11 11 [97, 0, 0, 0, 0, 0, 0, 0, 0, 0, 0] _ HE.out.r4 (by omega) none4).mono ?_
      rintro e w9 ⟨rfl, hb⟩
      replace HE := hide (HE.out.below hb)
      clear hb hc hf
      go_wp2_with fail
      go_roundw
      case rel => exact ⟨5, by omega, by go_num, HE.out⟩
      case measure => simp [intOf]
    · have hc : wr.cell? ⟨G, 5, none⟩ = some (.slice (some ⟨g5, 0, none⟩) 13 13) := hC 5
      have hf := hF 5
      clear hC hF
      go_wp2_with fail
      refine (part_none (some ⟨g5, 0, none⟩) 13 13 [97, 0, 5, 0, 0, 255, 255, 255, 255, 255, 255, 255, 250] _ HE.out.r5 (by omega) none5).mono ?_
      rintro e w9 ⟨rfl, hb⟩
      replace HE := hide (HE.out.below hb)
      clear hb hc hf
      go_wp2_with fail
      go_roundw
      case rel => exact ⟨6, by omega, by go_num, HE.out⟩
      case measure => simp [intOf]
    · have hc : wr.cell? ⟨G, 6, none⟩ = some (.slice (some ⟨g6, 0, none⟩) 10 10) := hC 6
      have hf := hF 6
      clear hC hF
      go_wp2_with fail
      refine (part_none (some ⟨g6, 0, none⟩) 10 10 (zs 10) _ HE.out.r6 (by omega) none6).mono ?_
      rintro e w9 ⟨rfl, hb⟩
      replace HE := hide (HE.out.below hb)
      clear hb hc hf
      go_wp2_with fail
      go_roundw
      case rel => exact ⟨7, by omega, by go_num, HE.out⟩
      case measure => simp [intOf]
    · have hc : wr.cell? ⟨G, 7, none⟩ = some (.slice (some ⟨g7, 0, none⟩) 11 11) := hC 7
      have hf := hF 7
      clear hC hF
      go_wp2_with fail
      refine (part_none (some ⟨g7, 0, none⟩) 11 11 (zs 11) _ HE.out.r7 (by omega) none7).mono ?_
      rintro e w9 ⟨rfl, hb⟩
      replace HE := hide (HE.out.below hb)
      clear hb hc hf
      go_wp2_with fail
      go_roundw
      case rel => exact ⟨8, by omega, by go_num, HE.out⟩
      case measure => simp [intOf]
    · clear hC hF
      go_wp2_with fail
      refine (awake_any _).mono ?_
      rintro e w9 ⟨rfl, hb⟩
      replace HB := hide (show Below w.heap.size w w9 from HE.out.bel.trans (hb.mono HE.out.bel.size))
      clear hb
      go_wp2_with fail
      go_ret
      exact ⟨rfl, HB.out⟩
end Go.Proofs.Ytlkeibpaleiemaa
