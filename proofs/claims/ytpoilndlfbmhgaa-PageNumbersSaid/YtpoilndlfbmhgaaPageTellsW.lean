/-
  The walk of the law PageTells: it returns true. Conditions: the page and the key read as lists.
-/
import Derived.Test.YtpoilndlfbmhgaaAwakeP
namespace Go.Proofs.Ytpoilndlfbmhgaa
open Go.RowKit

theorem PgOwn.form {w : World} {lo : Nat} {v : Value} {k : UInt8} {nx : Int} {cs : List Pag.Ce} (h : PgOwn w lo v ⟨k, nx, cs⟩) : ∃ A c, v = .agg #[.int .u8 (k.toNat : Int), .int .i64 nx, .slice A cs.length c] ∧ CeOwn w lo 0 (.slice A cs.length c) cs := h
set_option linter.unusedVariables false in
set_option maxRecDepth 100000 in
set_option maxHeartbeats 1600000 in
theorem pageTells_any (kd : UInt8) (nx : Int) (A Ak : Option Addr) (n c nk ck : Nat) (cs : List Pag.Ce) (key : List UInt8) (w : World) (hl : CeRd w w.heap.size A n cs) (hk : Rb w w.heap.size Ak nk key) (hn : n ≤ 2932031007402) :
    Calls Try.prog 3 #[.agg #[.int .u8 (kd.toNat : Int), .int .i64 nx, .slice A n c], .slice Ak nk ck] w fun e w' => e = .returned (.bool true) ∧ Below w.heap.size w w' := by
  have HL := hide hl
  have HK := hide hk
  have HN := hide hl.1
  clear hl hk
  obtain ⟨w1, hw1⟩ : ∃ w1, w1 = w.alloc (.cells #[.int .u8 (kd.toNat : Int), .int .i64 nx, .slice A n c] 25) := ⟨_, rfl⟩
  have HP1 : Hid (Blk w1 w.heap.size 25 #[.int .u8 (kd.toNat : Int), .int .i64 nx, .slice A n c]) := by rw [hw1]; exact Blk.new _ _ _
  have HB1 : Hid (Below w.heap.size w w1) := by rw [hw1]; exact (Below.refl _ _).alloc (Nat.le_refl _) _
  have hs1 : w.heap.size < w1.heap.size := by rw [hw1]; simp
  have p0 := HP1.out.cell 0
  have p1 := HP1.out.cell 1
  have p2 := HP1.out.cell 2
  simp at p0 p1 p2
  go_enter Try.func3, Try.ntmps3
  go_upto_region 1 with fail
  rw [← hw1]
  clear hw1
  go_wp2_with fail
  with_reducible refine (copyPage_any kd nx A n c cs _ (by exact (HL.out.below HB1.out (Nat.le_refl _)).more (by omega)) hn).mono ?_
  rintro e w2 ⟨v2, rfl, hown, hb2⟩
  obtain ⟨Ai, ci, rfl, ho2⟩ := hown.form
  obtain ⟨m, hm⟩ : ∃ m, m = cs.length := ⟨_, rfl⟩
  rw [← hm] at ho2 ⊢
  have HM := hide hm
  have hmn : m = n := by rw [HN.out]; exact hm
  have hm2 : m ≤ 2932031007402 := by omega
  have hs2 := hb2.size
  obtain ⟨w3, hw3⟩ : ∃ w3, w3 = w2.alloc (.cells #[.int .u8 (kd.toNat : Int), .int .i64 nx, .slice Ai m ci] 25) := ⟨_, rfl⟩
  have hb3 : Below w2.heap.size w2 w3 := by rw [hw3]; exact (Below.refl _ _).alloc (Nat.le_refl _) _
  have HI3 : Hid (Blk w3 w2.heap.size 25 #[.int .u8 (kd.toNat : Int), .int .i64 nx, .slice Ai m ci]) := by rw [hw3]; exact Blk.new _ _ _
  have hs3 : w2.heap.size < w3.heap.size := by rw [hw3]; simp
  have hb13 : Below w1.heap.size w1 w3 := hb2.trans (hb3.mono hs2)
  have HB3 := hide (HB1.out.trans (hb13.mono (Nat.le_of_lt hs1)))
  have HP3 := hide (HP1.out.below hb13 hs1)
  have HO3 := hide (ho2.below hb3 hs2)
  have HL3 := hide ((HL.out.below HB3.out (Nat.le_refl _)).more (C := w3.heap.size) (by omega))
  clear hown ho2 hm hb2 hb3 hb13 p0 p1 p2 hmn
  go_upto_region 2 with fail
  rw [← hw3]
  clear hw3
  have i0 := HI3.out.cell 0
  have i1 := HI3.out.cell 1
  have i2 := HI3.out.cell 2
  simp at i0 i1 i2
  go_wp2_with fail
  with_reducible refine (pack_any kd nx Ai m ci cs _ (by exact HO3.out.rd HM.out (by omega)) (by omega)).mono ?_
  obtain ⟨r, hr⟩ : ∃ r, r = Pag.pack ⟨kd, nx, cs⟩ := ⟨_, rfl⟩
  rw [← hr]
  have HR := hide hr
  rintro e w4 ⟨v4, rfl, hown4, hb4⟩
  have hs4 := hb4.size
  have HB4 := hide (HB3.out.trans (hb4.mono (by omega)))
  have HP4 := hide (HP3.out.below hb4 (by omega))
  have HI4 := hide (HI3.out.below hb4 hs3)
  have HO4 := hide (HO3.out.below hb4 (by omega))
  have HL4 := hide ((HL3.out.below hb4 (Nat.le_refl _)).more hs4)
  obtain ⟨A4, c4, rfl⟩ := own_sl hown4
  have HOb4 := hide hown4
  clear hr hown4 hb4 i0 i1 i2
  have p0 := HP4.out.cell 0
  have p1 := HP4.out.cell 1
  have p2 := HP4.out.cell 2
  simp at p0 p1 p2
  go_wp2_with fail
  with_reducible refine (rPack_any kd nx A n c cs _ HL4.out (by omega)).mono ?_
  rw [← HR.out]
  rintro e w6 ⟨v6, rfl, hown6, hb6⟩
  have hs6 := hb6.size
  have HB6 := hide (HB4.out.trans (hb6.mono (by omega)))
  have HP6 := hide (HP4.out.below hb6 (by omega))
  have HI6 := hide (HI4.out.below hb6 (by omega))
  have HO6 := HO4.out.below hb6 (by omega)
  obtain ⟨A6, c6, rfl⟩ := own_sl hown6
  have HOc := hide (Rb.own hown6)
  have HOb := hide (Rb.own (own_below HOb4.out hb6))
  have HCi := hide (HO6.rd HM.out (by omega))
  have HCp := hide ((HL4.out.below hb6 (Nat.le_refl _)).more hs6)
  have HKy := hide ((HK.out.below HB6.out (Nat.le_refl _)).more (B' := w6.heap.size) (by omega))
  have hg5 : w2.heap.size < w6.heap.size := HI6.out.lt
  have hg2 : w.heap.size < w6.heap.size := HP6.out.lt
  clear hown6 hb6 HO6 p0 p1 p2
  have i0 := HI6.out.cell 0
  have i1 := HI6.out.cell 1
  have i2 := HI6.out.cell 2
  have p0 := HP6.out.cell 0
  have p1 := HP6.out.cell 1
  have p2 := HP6.out.cell 2
  simp at i0 i1 i2 p0 p1 p2
  have e0 : (((r.1 : Nat) : Int) == ((r.1 : Nat) : Int)) = true := by simp
  go_upto_region 4 with fail
  have hTs := tab_stable (l := [(6, NoF), (11, NoF), (14, NoF), (20, NoF), (23, NoF)]) (fun p hp => by
      simp only [List.mem_cons, List.not_mem_nil, or_false] at hp
      rcases hp with rfl | rfl | rfl | rfl | rfl
      · exact NoF.stable
      · exact NoF.stable
      · exact NoF.stable
      · exact NoF.stable
      · exact NoF.stable)
  have hSs := shp_some (l := [(6, IsV (.bool true)), (11, IsV (.int .i64 (Pag.belowN cs key : Nat))), (14, IsV (.int .i64 (Pag.belowN cs key : Nat))), (20, IsV (.bool true)), (23, IsV (.bool true))]) (fun p hp => by
      simp only [List.mem_cons, List.not_mem_nil, or_false] at hp
      rcases hp with rfl | rfl | rfl | rfl | rfl
      · exact IsV.some _
      · exact IsV.some _
      · exact IsV.some _
      · exact IsV.some _
      · exact IsV.some _)
  have HTs := hide hTs
  have HSs := hide hSs
  clear hTs hSs
  refine wp_region_toldL (tab [(6, NoF), (11, NoF), (14, NoF), (20, NoF), (23, NoF)]) (Up w6) (w6.heap.size) 26 (shp [(6, IsV (.bool true)), (11, IsV (.int .i64 (Pag.belowN cs key : Nat))), (14, IsV (.int .i64 (Pag.belowN cs key : Nat))), (20, IsV (.bool true)), (23, IsV (.bool true))]) (HSs.out) (HTs.out) (Up.lives _) Gro (Gro.turns (Up.lives _) (HTs.out)) (by kernel_rfl) (by kernel_rfl) (Up.start _) (Nat.le_refl _) ?_
  simp only [List.take_succ_cons, List.take_zero, List.drop_succ_cons, List.drop_zero]
  refine wpTold_read ?_ rfl rfl (fun w' hS => ?_) ?_
  rotate_left
  · go_simp
    rfl
  go_frame
  refine wpTold_read ?_ rfl rfl (fun w' hS => ?_) ?_
  rotate_left
  · go_simp
    rfl
  go_frame
  refine wpTold_read ?_ rfl rfl (fun w' hS => ?_) ?_
  rotate_left
  · go_simp
    rfl
  go_frame
  refine wpTold_read ?_ rfl rfl (fun w' hS => ?_) ?_
  rotate_left
  · go_simp
    rfl
  go_frame
  refine wpTold_read ?_ rfl rfl (fun w' hS => ?_) ?_
  rotate_left
  · go_simp
    rfl
  go_frame
  refine wpTold_read ?_ rfl rfl (fun w' hS => ?_) ?_
  rotate_left
  · go_simp
    rfl
  go_frame
  refine' wpTold_call _ _ _ rfl rfl (fun w' => ?_) (fun w' hS hh hs => ?_) (fun v6 h6 => ?_)
  rotate_left 2
  · go_simp
    constructor <;> rfl
  · refine (sameBytes_any _ _ _ _ _ _ r.2 r.2 _ _ _ (by exact HOb.out.below hS (Nat.le_refl _)) (by exact HOc.out.below hS (Nat.le_refl _))).mono ?_
    rintro e w2 ⟨rfl, rfl⟩
    rw [BEq.rfl]
    exact ⟨_, rfl, ⟨rfl, trivial⟩, Below.refl _ _⟩
  obtain rfl := h6
  go_frame
  refine wpTold_read ?_ rfl rfl (fun w' hS => ?_) ?_
  rotate_left
  · go_simp
    rfl
  go_frame
  refine wpTold_read ?_ rfl rfl (fun w' hS => ?_) ?_
  rotate_left
  · go_simp
    rfl
  go_frame
  refine wpTold_read ?_ rfl rfl (fun w' hS => ?_) ?_
  rotate_left
  · have i0' := (hS.cell (p := ⟨w2.heap.size, 0, none⟩) hg5).trans i0
    have i1' := (hS.cell (p := ⟨w2.heap.size, 1, none⟩) hg5).trans i1
    have i2' := (hS.cell (p := ⟨w2.heap.size, 2, none⟩) hg5).trans i2
    have p0' := (hS.cell (p := ⟨w.heap.size, 0, none⟩) hg2).trans p0
    have p1' := (hS.cell (p := ⟨w.heap.size, 1, none⟩) hg2).trans p1
    have p2' := (hS.cell (p := ⟨w.heap.size, 2, none⟩) hg2).trans p2
    go_simp
    rfl
  go_frame
  refine wpTold_read ?_ rfl rfl (fun w' hS => ?_) ?_
  rotate_left
  · go_simp
    rfl
  go_frame
  refine' wpTold_call _ _ _ rfl rfl (fun w' => ?_) (fun w' hS hh hs => ?_) (fun v11 h11 => ?_)
  rotate_left 2
  · go_simp
    constructor <;> rfl
  · refine (below_any kd nx Ai Ak m ci nk ck cs key _ (by exact (HCi.out.below hS (Nat.le_refl _)).more hS.size) (by exact (HKy.out.below hS (Nat.le_refl _)).more hS.size) (by omega)).mono ?_
    rintro e w2 ⟨rfl, h2⟩
    exact ⟨_, rfl, ⟨rfl, trivial⟩, h2⟩
  obtain rfl := h11
  go_frame
  refine wpTold_read ?_ rfl rfl (fun w' hS => ?_) ?_
  rotate_left
  · have i0' := (hS.cell (p := ⟨w2.heap.size, 0, none⟩) hg5).trans i0
    have i1' := (hS.cell (p := ⟨w2.heap.size, 1, none⟩) hg5).trans i1
    have i2' := (hS.cell (p := ⟨w2.heap.size, 2, none⟩) hg5).trans i2
    have p0' := (hS.cell (p := ⟨w.heap.size, 0, none⟩) hg2).trans p0
    have p1' := (hS.cell (p := ⟨w.heap.size, 1, none⟩) hg2).trans p1
    have p2' := (hS.cell (p := ⟨w.heap.size, 2, none⟩) hg2).trans p2
    go_simp
    rfl
  go_frame
  refine wpTold_read ?_ rfl rfl (fun w' hS => ?_) ?_
  rotate_left
  · go_simp
    rfl
  go_frame
  refine' wpTold_call _ _ _ rfl rfl (fun w' => ?_) (fun w' hS hh hs => ?_) (fun v14 h14 => ?_)
  rotate_left 2
  · go_simp
    constructor <;> rfl
  · refine (rBelow_any kd nx A Ak n c nk ck cs key _ (by exact (HCp.out.below hS (Nat.le_refl _)).more hS.size) (by exact (HKy.out.below hS (Nat.le_refl _)).more hS.size) (by omega)).mono ?_
    rintro e w2 ⟨rfl, h2⟩
    exact ⟨_, rfl, ⟨rfl, trivial⟩, h2⟩
  obtain rfl := h14
  go_frame
  refine wpTold_read ?_ rfl rfl (fun w' hS => ?_) ?_
  rotate_left
  · go_simp
    rfl
  go_frame
  refine wpTold_read ?_ rfl rfl (fun w' hS => ?_) ?_
  rotate_left
  · go_simp
    rfl
  go_frame
  refine wpTold_read ?_ rfl rfl (fun w' hS => ?_) ?_
  rotate_left
  · go_simp
    rfl
  go_frame
  refine wpTold_read ?_ rfl rfl (fun w' hS => ?_) ?_
  rotate_left
  · have i0' := (hS.cell (p := ⟨w2.heap.size, 0, none⟩) hg5).trans i0
    have i1' := (hS.cell (p := ⟨w2.heap.size, 1, none⟩) hg5).trans i1
    have i2' := (hS.cell (p := ⟨w2.heap.size, 2, none⟩) hg5).trans i2
    have p0' := (hS.cell (p := ⟨w.heap.size, 0, none⟩) hg2).trans p0
    have p1' := (hS.cell (p := ⟨w.heap.size, 1, none⟩) hg2).trans p1
    have p2' := (hS.cell (p := ⟨w.heap.size, 2, none⟩) hg2).trans p2
    go_simp
    rfl
  go_frame
  refine wpTold_read ?_ rfl rfl (fun w' hS => ?_) ?_
  rotate_left
  · have i0' := (hS.cell (p := ⟨w2.heap.size, 0, none⟩) hg5).trans i0
    have i1' := (hS.cell (p := ⟨w2.heap.size, 1, none⟩) hg5).trans i1
    have i2' := (hS.cell (p := ⟨w2.heap.size, 2, none⟩) hg5).trans i2
    have p0' := (hS.cell (p := ⟨w.heap.size, 0, none⟩) hg2).trans p0
    have p1' := (hS.cell (p := ⟨w.heap.size, 1, none⟩) hg2).trans p1
    have p2' := (hS.cell (p := ⟨w.heap.size, 2, none⟩) hg2).trans p2
    go_simp
    rfl
  go_frame
  refine' wpTold_call _ _ _ rfl rfl (fun w' => ?_) (fun w' hS hh hs => ?_) (fun v20 h20 => ?_)
  rotate_left 2
  · go_simp
    constructor <;> rfl
  · refine (samePage_any kd nx Ai m ci cs kd nx A n c cs _ (by exact (HCi.out.below hS (Nat.le_refl _)).more hS.size) (by exact (HCp.out.below hS (Nat.le_refl _)).more hS.size) (by unfold maxLen; omega) (by unfold maxLen; omega)).mono ?_
    rintro e w2 ⟨rfl, h2⟩
    rw [pgB_refl]
    exact ⟨_, rfl, ⟨rfl, trivial⟩, h2⟩
  obtain rfl := h20
  go_frame
  refine wpTold_read ?_ rfl rfl (fun w' hS => ?_) ?_
  rotate_left
  · go_simp
    rfl
  go_frame
  refine wpTold_read ?_ rfl rfl (fun w' hS => ?_) ?_
  rotate_left
  · go_simp
    rfl
  go_frame
  refine' wpTold_call _ _ _ rfl rfl (fun w' => ?_) (fun w' hS hh hs => ?_) (fun v23 h23 => ?_)
  rotate_left 2
  · go_simp
    constructor <;> rfl
  · refine (awake_any _).mono ?_
    rintro e w2 ⟨rfl, h2⟩
    exact ⟨_, rfl, ⟨rfl, trivial⟩, h2⟩
  obtain rfl := h23
  go_frame
  refine wpTold_read ?_ rfl rfl (fun w' hS => ?_) ?_
  rotate_left
  · go_simp
    rfl
  go_frame
  refine wpTold_read ?_ rfl rfl (fun w' hS => ?_) ?_
  rotate_left
  · go_simp
    rfl
  go_frame
  refine wpTold_nil fun w7 hH => ?_
  have HB7 := hide (HB6.out.trans (hH.s.mono (by omega)))
  clear hH i0 i1 i2 p0 p1 p2
  go_wp2_with fail
  go_ret
  exact ⟨rfl, HB7.out⟩
end Go.Proofs.Ytpoilndlfbmhgaa
