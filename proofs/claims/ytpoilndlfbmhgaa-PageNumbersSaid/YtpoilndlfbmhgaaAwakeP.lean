/-
  The walks of the law's own two and awake. Conditions: none.
-/
import Derived.Test.YtpoilndlfbmhgaaFindQ
import Derived.Lib.SlBytesConst
namespace Go.Proofs.Ytpoilndlfbmhgaa
open Go.RowKit

namespace Pag
def twoP : Pg := ⟨1, 0, [([97], [98]), ([99], [100])]⟩
def head24 : List UInt8 := [1, 0, 2, 0, 0, 0, 0, 0, 12, 0, 18, 0, 1, 0, 1, 0, 97, 98, 1, 0, 1, 0, 99, 100]
def bytesT : List UInt8 := head24 ++ List.replicate 4056 0
theorem pack_two : pack twoP = (0, bytesT) := by
  refine pack_ok.2 ⟨by rfl, by decide, ?_⟩
  have : front twoP = head24 := by rfl
  rw [this]
  rfl
theorem unp_two : unpB bytesT = some twoP := unpB_of_pack pack_two
theorem take24 : (bytesT.take 24 == head24) = true := by
  unfold bytesT
  rw [show (24 : Nat) = head24.length from rfl, List.take_left' rfl]
  simp
theorem len_two : bytesT.length = 4080 := pack_len pack_two
theorem find_two : findB bytesT [99] = ([100], true, 0) := by
  unfold findB
  rw [unp_two]
  rfl
end Pag
theorem own_blk {w : World} {base g n size : Nat} {e : TypeId} {xs : List Value} (h : Blk w g e xs.toArray) (hb : base ≤ g) (hn : xs.length = n * size) (hm : n ≤ maxLen) : w.ownsRow base e size (.slice (some ⟨g, 0, none⟩) n n) n xs :=
  ⟨hn, .inr ⟨g, n, xs.toArray, rfl, hb, h, Nat.le_refl _, hm, by simp [hn], by simp [← hn]⟩⟩
theorem Rb.cells {w : World} {B g n : Nat} {l : List UInt8} {e : TypeId} {mk : Nat × Nat} (h : w.heap[g]? = some (.cells (l.map B8).toArray e mk)) (hn : l.length = n) (hB : g < B) : Rb w B (some ⟨g, 0, none⟩) n l := by
  subst hn
  refine ⟨by simp, fun _ => ⟨g, 0, rfl, hB, fun j u hu => ?_⟩⟩
  rw [Nat.zero_add, cell_of_row w g j _ e mk h]
  simpa using hu
theorem bd_cells {w : World} {B g : Nat} {l : List UInt8} {e : TypeId} {mk : Nat × Nat} (h : w.heap[g]? = some (.cells (l.map B8).toArray e mk)) (hB : g < B) (hm : l.length ≤ 1000000) : Bd w B (.slice (some ⟨g, 0, none⟩) l.length l.length) l :=
  ⟨_, _, rfl, Rb.cells h rfl hB, by omega, Nat.le_refl _, by omega⟩
theorem alloc_heap (w : World) (o : Obj) : (w.alloc o).heap = w.heap.push o := rfl
theorem bytes_const_at (w : World) (C : Array Value) (n c g : Nat) (hg : g = w.heap.size) : (convert 26 26 (.slice (some ⟨g, 0, none⟩) n c)).run Try.prog (w.alloc (.cells C 5)) = .ok (.slice (some ⟨g, 0, none⟩) n c) (w.alloc (.cells C 5 (C.size, C.size + 1))) := by
  subst hg
  exact Lib.run_convert_bytes_const (P := Try.prog) w 26 5 C n c Try.underlying26 Try.underlying5
def TwoRd : Fact := fun u w => ∃ A c, u = .agg #[.int .u8 1, .int .i64 0, .slice A 2 c] ∧ CeRd w w.heap.size A 2 Pag.twoP.cells
theorem TwoRd.stable : StableF TwoRd := fun _ _ _ hu hb => by
  obtain ⟨A, c, e, h⟩ := hu
  exact ⟨A, c, e, (h.below hb (Nat.le_refl _)).more hb.size⟩
def IsTwo (v : Value) : Prop := ∃ A c, v = .agg #[.int .u8 1, .int .i64 0, .slice A 2 c]
theorem IsTwo.some : ∃ v, IsTwo v := ⟨.agg #[.int .u8 1, .int .i64 0, .slice Option.none 2 0], _, _, rfl⟩
theorem two_any (w : World) : Calls Try.prog 32 #[] w fun e w' => ∃ A c, e = .returned (.agg #[.int .u8 1, .int .i64 0, .slice A 2 c]) ∧ CeRd w' w'.heap.size A 2 Pag.twoP.cells ∧ Below w.heap.size w w' := by
  have kc := fun (w : World) (C : Array Value) (n c g : Nat) (hg : g = w.heap.size) => bytes_const_at w C n c g hg
  go_enter Try.func32, Try.ntmps32
  go_wp2_with fail
  clear kc
  obtain ⟨w9, hw9⟩ : ∃ w9, w9 = (((((w.alloc (.cells #[.int .u8 1, .int .i64 0, .slice (some ⟨w.heap.size + 1 + 1 + 1 + 1 + 1, 0, none⟩) 2 2] 25)).alloc (.cells #[.int .u8 97] 5 (1, 2))).alloc (.cells #[.int .u8 98] 5 (1, 2))).alloc (.cells #[.int .u8 99] 5 (1, 2))).alloc (.cells #[.int .u8 100] 5 (1, 2))).alloc (.cells #[.slice (some ⟨w.heap.size + 1, 0, none⟩) 1 1, .slice (some ⟨w.heap.size + 1 + 1, 0, none⟩) 1 1, .slice (some ⟨w.heap.size + 1 + 1 + 1, 0, none⟩) 1 1, .slice (some ⟨w.heap.size + 1 + 1 + 1 + 1, 0, none⟩) 1 1] 41) := ⟨_, rfl⟩
  rw [← hw9]
  have hs9 : w9.heap.size = w.heap.size + 6 := by rw [hw9]; simp
  have h0 : Blk w9 w.heap.size 25 #[.int .u8 1, .int .i64 0, .slice (some ⟨w.heap.size + 1 + 1 + 1 + 1 + 1, 0, none⟩) 2 2] := by unfold Blk; rw [hw9]; simp only [alloc_heap, Array.getElem?_push, Array.size_push]; simp [Nat.add_assoc]
  have h1 : w9.heap[w.heap.size + 1]? = some (.cells (([97] : List UInt8).map B8).toArray 5 (1, 2)) := by rw [hw9]; simp only [alloc_heap, Array.getElem?_push, Array.size_push]; simp [B8, Nat.add_assoc]
  have h2 : w9.heap[w.heap.size + 1 + 1]? = some (.cells (([98] : List UInt8).map B8).toArray 5 (1, 2)) := by rw [hw9]; simp only [alloc_heap, Array.getElem?_push, Array.size_push]; simp [B8, Nat.add_assoc]
  have h3 : w9.heap[w.heap.size + 1 + 1 + 1]? = some (.cells (([99] : List UInt8).map B8).toArray 5 (1, 2)) := by rw [hw9]; simp only [alloc_heap, Array.getElem?_push, Array.size_push]; simp [B8, Nat.add_assoc]
  have h4 : w9.heap[w.heap.size + 1 + 1 + 1 + 1]? = some (.cells (([100] : List UInt8).map B8).toArray 5 (1, 2)) := by rw [hw9]; simp only [alloc_heap, Array.getElem?_push, Array.size_push]; simp [B8, Nat.add_assoc]
  have h5 : w9.heap[w.heap.size + 1 + 1 + 1 + 1 + 1]? = some (.cells #[.slice (some ⟨w.heap.size + 1, 0, none⟩) 1 1, .slice (some ⟨w.heap.size + 1 + 1, 0, none⟩) 1 1, .slice (some ⟨w.heap.size + 1 + 1 + 1, 0, none⟩) 1 1, .slice (some ⟨w.heap.size + 1 + 1 + 1 + 1, 0, none⟩) 1 1] 41 (0, 0)) := by rw [hw9]; simp only [alloc_heap, Array.getElem?_push, Array.size_push]; simp [Nat.add_assoc]
  have hb : Below w.heap.size w w9 := by
    rw [hw9]
    exact ((((((Below.refl _ _).alloc (Nat.le_refl _) _).alloc (by simp) _).alloc (by simp; omega) _).alloc (by simp; omega) _).alloc (by simp; omega) _).alloc (by simp; omega) _
  clear hw9
  refine bodyPost_ret (v := .agg #[.int .u8 1, .int .i64 0, .slice (some ⟨w.heap.size + 1 + 1 + 1 + 1 + 1, 0, none⟩) 2 2]) (results_page1 rfl h0 rfl) rfl ⟨_, _, rfl, ⟨rfl, [(.slice (some ⟨w.heap.size + 1, 0, none⟩) 1 1, .slice (some ⟨w.heap.size + 1 + 1, 0, none⟩) 1 1), (.slice (some ⟨w.heap.size + 1 + 1 + 1, 0, none⟩) 1 1, .slice (some ⟨w.heap.size + 1 + 1 + 1 + 1, 0, none⟩) 1 1)], rfl, ⟨rfl, fun _ => ⟨_, 0, rfl, by omega, fun j u hu => ?_⟩⟩, fun i c b hc hb' => ?_⟩, hb⟩
  · rw [Nat.zero_add, cell_of_row w9 _ j _ _ _ h5]
    simpa [prs] using hu
  · match i with
    | 0 =>
      simp [Pag.twoP] at hc hb'
      subst hc hb'
      exact ⟨bd_cells h1 (by omega) (by simp), bd_cells h2 (by omega) (by simp)⟩
    | 1 =>
      simp [Pag.twoP] at hc hb'
      subst hc hb'
      exact ⟨bd_cells h3 (by omega) (by simp), bd_cells h4 (by omega) (by simp)⟩
    | i + 2 => simp [Pag.twoP] at hc
set_option linter.unusedVariables false in
set_option maxRecDepth 100000 in
set_option maxHeartbeats 1600000 in
theorem awake_any (w : World) : Calls Try.prog 15 #[] w fun e w' => e = .returned (.bool true) ∧ Below w.heap.size w w' := by
  have kc := fun (w : World) (C : Array Value) (n c g : Nat) (hg : g = w.heap.size) => bytes_const_at w C n c g hg
  go_enter Try.func15, Try.ntmps15
  go_wp2_with fail
  with_reducible refine (two_any _).mono ?_
  rintro e w1 ⟨A1, c1, rfl, hc1, hb1⟩
  have HC1 := hide hc1
  have HB1 := hide hb1
  have hs1 := hb1.size
  clear hc1 hb1
  go_wp2_with fail
  have cp := pack_any 1 0 A1 2 c1 Pag.twoP.cells _ HC1.out (by omega)
  rw [show ((1 : UInt8).toNat : Int) = 1 from rfl] at cp
  with_reducible refine cp.mono ?_
  clear cp
  rintro e w2 ⟨v2, rfl, hown2, hb2⟩
  rw [show Pag.pack ⟨1, 0, Pag.twoP.cells⟩ = (0, Pag.bytesT) from Pag.pack_two] at hown2 ⊢
  obtain ⟨bT, hbT⟩ : ∃ bT, bT = Pag.bytesT := ⟨_, rfl⟩
  rw [← hbT] at hown2 ⊢
  have HbT := hide hbT
  have HB2 := hide (HB1.out.trans (hb2.mono hs1))
  have hs2 := HB2.out.size
  simp only at hown2 ⊢
  rw [show bT.length = 4080 by rw [hbT]; exact Pag.len_two] at hown2
  obtain ⟨A2, c2, rfl, _, hc2a, hc2b⟩ := own_form hown2
  have HO2 := hide hown2
  clear hown2 hb2 hbT
  have hbl : bT.length = 4080 := by rw [HbT.out]; exact Pag.len_two
  have HRb := hide (Rb.own (l := bT) HO2.out)
  clear hbl
  unfold maxLen at hc2b
  go_wp2_with fail
  with_reducible refine (unpack_any A2 4080 c2 bT _ HRb.out (by omega) hc2a (by omega)).mono ?_
  rintro e w3 ⟨hb3, hr⟩
  rw [HbT.out, Pag.unp_two] at hr
  obtain ⟨v, rfl, Ap, cp, rfl, hown⟩ := hr
  have hb3' : Below w2.heap.size w2 w3 := hb3
  have hs3 := hb3.size
  obtain ⟨w4, hw4⟩ : ∃ w4, w4 = w3.alloc (.cells #[.int .u8 1, .int .i64 0, .slice Ap 2 cp] 25) := ⟨_, rfl⟩
  have hb4 : Below w3.heap.size w3 w4 := by rw [hw4]; exact (Below.refl _ _).alloc (Nat.le_refl _) _
  have HK4 : Hid (Blk w4 w3.heap.size 25 #[.int .u8 1, .int .i64 0, .slice Ap 2 cp]) := by rw [hw4]; exact Blk.new _ _ _
  have hs4 : w4.heap.size = w3.heap.size + 1 := by rw [hw4]; simp
  have HO4 := hide (hown.below hb4 hs3)
  have HB4 := hide ((HB2.out.trans (hb3.mono hs2)).trans (hb4.mono (by omega)))
  have HRb4 := hide (((HRb.out.below hb3 (Nat.le_refl _)).more hs3).below hb4 (Nat.le_refl _))
  clear hown hb3 hb3' hb4
  go_upto_region 3 with fail
  rw [show (Pag.twoP.kind.toNat : Int) = 1 from rfl, show Pag.twoP.next = 0 from rfl, show Pag.twoP.cells.length = 2 from rfl, ← hw4]
  clear hw4
  obtain ⟨w5, hw5⟩ : ∃ w5, w5 = w4.alloc (.cells #[.int .u8 99] 5 (1, 2)) := ⟨_, rfl⟩
  have hh5 : w5.heap[w4.heap.size]? = some (.cells (([99] : List UInt8).map B8).toArray 5 (1, 2)) := by rw [hw5]; exact heap_alloc_new w4 _
  have hb5 : Below w4.heap.size w4 w5 := by rw [hw5]; exact (Below.refl _ _).alloc (Nat.le_refl _) _
  have hs5 : w5.heap.size = w4.heap.size + 1 := by rw [hw5]; simp
  have HKey : Hid (Rb w5 w5.heap.size (some ⟨w4.heap.size, 0, none⟩) 1 [99]) := Rb.cells hh5 rfl (by omega)
  have HB5 := hide (HB4.out.trans (hb5.mono (by omega)))
  have HRb5 := hide ((HRb4.out.below hb5 (by omega)).more (B' := w5.heap.size) (by omega))
  have HO5 := hide (HO4.out.below hb5 (by omega))
  have HK5 := hide (HK4.out.below hb5 (by omega))
  have hs45 : w2.heap.size ≤ w5.heap.size := by omega
  have hs35 : w3.heap.size < w5.heap.size := by omega
  clear hh5 hb5 hs4 hs5
  go_wp2_with fail
  rw [← hw5]
  clear hw5
  with_reducible refine (Find_any A2 (some ⟨w4.heap.size, 0, none⟩) 4080 c2 1 1 bT [99] _ HRb5.out (by omega) hc2a (by omega) HKey.out).mono ?_
  rintro e w6 ⟨hb6, vv, rfl, hvo⟩
  rw [HbT.out, Pag.find_two] at hvo ⊢
  simp only at hvo ⊢
  have hs6 := hb6.size
  obtain ⟨Av, cv, rfl, hvr, _, _, _⟩ := hvo.bd (by omega)
  have HV : Hid (Rb w6 w6.heap.size Av 1 [100]) := hvr
  have HB6 := hide (HB5.out.trans (hb6.mono (by omega)))
  have HK6 := hide (HK5.out.below hb6 (by omega))
  have HPg := hide (((HO5.out.rd rfl (by omega)).below hb6 (Nat.le_refl _)).more hs6)
  have HRb6 := hide ((HRb5.out.below hb6 (Nat.le_refl _)).more hs6)
  obtain ⟨gp, hgp'⟩ : ∃ gp, gp = w3.heap.size := ⟨_, rfl⟩
  rw [← hgp'] at HK6 ⊢
  have hgp : gp < w6.heap.size := HK6.out.lt
  have k0 := HK6.out.cell 0
  have k1 := HK6.out.cell 1
  have k2 := HK6.out.cell 2
  simp at k0 k1 k2
  have HB24 : Hid (Rb w6 w6.heap.size A2 24 (Pag.bytesT.take 24)) := by rw [← HbT.out]; exact HRb6.out.take (by omega)
  clear hb6 hvo hvr hgp' kc
  go_upto_region 4 with fail
  have hTs := tab_stable (l := [(15, NoF), (19, TwoRd), (20, NoF)]) (fun p hp => by
      simp only [List.mem_cons, List.not_mem_nil, or_false] at hp
      rcases hp with rfl | rfl | rfl
      · exact NoF.stable
      · exact TwoRd.stable
      · exact NoF.stable)
  have hSs := shp_some (l := [(15, IsV (.bool true)), (19, IsTwo), (20, IsV (.bool true))]) (fun p hp => by
      simp only [List.mem_cons, List.not_mem_nil, or_false] at hp
      rcases hp with rfl | rfl | rfl
      · exact IsV.some _
      · exact IsTwo.some
      · exact IsV.some _)
  have HTs := hide hTs
  have HSs := hide hSs
  clear hTs hSs
  refine wp_region_toldL (tab [(15, NoF), (19, TwoRd), (20, NoF)]) (Up w6) (w6.heap.size) 31 (shp [(15, IsV (.bool true)), (19, IsTwo), (20, IsV (.bool true))]) (HSs.out) (HTs.out) (Up.lives _) Gro (Gro.turns (Up.lives _) (HTs.out)) (by kernel_rfl) (by kernel_rfl) (Up.start _) (Nat.le_refl _) ?_
  simp only [List.take_succ_cons, List.take_zero, List.drop_succ_cons, List.drop_zero]
  refine wpTold_read ?_ rfl rfl (fun w' hS => ?_) ?_
  rotate_left
  · go_simp
    rfl
  go_frame
  refine wpTold_read ?_ rfl rfl (fun w' hS => ?_) ?_
  rotate_left
  · go_simp
    rfl
  go_frame
  refine wpTold_read ?_ rfl rfl (fun w' hS => ?_) ?_
  rotate_left
  · go_simp
    rfl
  go_frame
  refine wpTold_read ?_ rfl rfl (fun w' hS => ?_) ?_
  rotate_left
  · go_simp
    rfl
  go_frame
  refine wpTold_read ?_ rfl rfl (fun w' hS => ?_) ?_
  rotate_left
  · go_simp
    rfl
  go_frame
  refine wpTold_read ?_ rfl rfl (fun w' hS => ?_) ?_
  rotate_left
  · go_simp
    rfl
  go_frame
  refine wpTold_read ?_ rfl rfl (fun w' hS => ?_) ?_
  rotate_left
  · go_simp
    rfl
  go_frame
  refine wpTold_read ?_ rfl rfl (fun w' hS => ?_) ?_
  rotate_left
  · go_simp
    rfl
  go_frame
  refine wpTold_read ?_ rfl rfl (fun w' hS => ?_) ?_
  rotate_left
  · go_simp
    rfl
  go_frame
  refine wpTold_read ?_ rfl rfl (fun w' hS => ?_) ?_
  rotate_left
  · go_simp
    rfl
  go_frame
  refine wpTold_read ?_ rfl rfl (fun w' hS => ?_) ?_
  rotate_left
  · go_simp
    rfl
  go_frame
  refine wpTold_read ?_ rfl rfl (fun w' hS => ?_) ?_
  rotate_left
  · go_simp
    rfl
  go_frame
  refine wpTold_read ?_ rfl rfl (fun w' hS => ?_) ?_
  rotate_left
  · go_simp
    rfl
  go_frame
  refine wpTold_read ?_ rfl rfl (fun w' hS => ?_) ?_
  rotate_left
  · have h24 : (24 : Int) ≤ (c2 : Int) := by omega
    go_simp
    rfl
  go_frame
  refine wpTold_make (some (24, 24)) (.cells #[.int .u8 1, .int .u8 0, .int .u8 2, .int .u8 0, .int .u8 0, .int .u8 0, .int .u8 0, .int .u8 0, .int .u8 12, .int .u8 0, .int .u8 18, .int .u8 0, .int .u8 1, .int .u8 0, .int .u8 1, .int .u8 0, .int .u8 97, .int .u8 98, .int .u8 1, .int .u8 0, .int .u8 1, .int .u8 0, .int .u8 99, .int .u8 100] 5) rfl rfl (fun w' hS => ?_) fun g14 => ?_
  · go_simp
    rfl
  go_frame
  refine' wpTold_call _ _ _ rfl rfl (fun w' => ?_) (fun w' hS hh hs => ?_) (fun v15 h15 => ?_)
  rotate_left 2
  · go_simp
    constructor <;> rfl
  · have hb14 := (hs.2 14 _ _ (by kernel_rfl) rfl).1
    have hl14 : g14 < w'.heap.size := lt_of_block hb14
    refine (sameBytes_any _ _ _ _ _ _ (Pag.bytesT.take 24) Pag.head24 _ _ _ (by exact HB24.out.below hS (Nat.le_refl _)) (by exact Rb.cells (l := Pag.head24) hb14 rfl hl14)).mono ?_
    rintro e w2 ⟨rfl, rfl⟩
    rw [Pag.take24]
    exact ⟨_, rfl, ⟨rfl, trivial⟩, Below.refl _ _⟩
  obtain rfl := h15
  go_frame
  refine wpTold_read ?_ rfl rfl (fun w' hS => ?_) ?_
  rotate_left
  · go_simp
    rfl
  go_frame
  refine wpTold_read ?_ rfl rfl (fun w' hS => ?_) ?_
  rotate_left
  · go_simp
    rfl
  go_frame
  refine wpTold_read ?_ rfl rfl (fun w' hS => ?_) ?_
  rotate_left
  · have k0' := (hS.cell (p := ⟨gp, 0, none⟩) hgp).trans k0
    have k1' := (hS.cell (p := ⟨gp, 1, none⟩) hgp).trans k1
    have k2' := (hS.cell (p := ⟨gp, 2, none⟩) hgp).trans k2
    go_simp
    rfl
  go_frame
  refine' wpTold_call _ _ _ rfl rfl (fun w' => ?_) (fun w' hS hh hs => ?_) (fun v19 h19 => ?_)
  rotate_left 2
  · go_simp
    constructor <;> rfl
  · refine (two_any _).mono ?_
    rintro e w2 ⟨A, c, rfl, h1, h2⟩
    exact ⟨_, rfl, ⟨⟨A, c, rfl⟩, A, c, rfl, h1⟩, h2⟩
  obtain ⟨A19, c19, rfl⟩ := h19
  go_frame
  refine' wpTold_call _ _ _ rfl rfl (fun w' => ?_) (fun w' hS hh hs => ?_) (fun v20 h20 => ?_)
  rotate_left 2
  · go_simp
    constructor <;> rfl
  · have h19 := hs.1 19 _ _ (by kernel_rfl) rfl rfl
    refine (samePage_any 1 0 Ap 2 cp Pag.twoP.cells 1 0 A19 2 c19 Pag.twoP.cells _ (by exact (HPg.out.below hS (Nat.le_refl _)).more hS.size) (by obtain ⟨A, c, e, h⟩ := h19; cases e; exact h) (by unfold maxLen; omega) (by unfold maxLen; omega)).mono ?_
    rintro e w2 ⟨rfl, h2⟩
    rw [pgB_refl]
    exact ⟨_, rfl, ⟨rfl, trivial⟩, h2⟩
  obtain rfl := h20
  go_frame
  refine wpTold_read ?_ rfl rfl (fun w' hS => ?_) ?_
  rotate_left
  · go_simp
    rfl
  go_frame
  refine wpTold_read ?_ rfl rfl (fun w' hS => ?_) ?_
  rotate_left
  · go_simp
    rfl
  go_frame
  refine wpTold_read ?_ rfl rfl (fun w' hS => ?_) ?_
  rotate_left
  · go_simp
    rfl
  go_frame
  refine wpTold_read ?_ rfl rfl (fun w' hS => ?_) ?_
  rotate_left
  · go_simp
    rfl
  go_frame
  refine wpTold_read ?_ rfl rfl (fun w' hS => ?_) ?_
  rotate_left
  · go_simp
    rfl
  go_frame
  refine wpTold_read ?_ rfl rfl (fun w' hS => ?_) ?_
  rotate_left
  · go_simp
    rfl
  go_frame
  refine wpTold_read ?_ rfl rfl (fun w' hS => ?_) ?_
  rotate_left
  · have hv := (HV.out.below hS (Nat.le_refl _)).run_string (P := Try.prog) 26 5 9 cv Try.underlying26 Try.underlying5 Try.underlying9
    go_simp
    rfl
  go_frame
  refine wpTold_read ?_ rfl rfl (fun w' hS => ?_) ?_
  rotate_left
  · go_simp
    rfl
  go_frame
  refine wpTold_read ?_ rfl rfl (fun w' hS => ?_) ?_
  rotate_left
  · go_simp
    rfl
  go_frame
  refine wpTold_read ?_ rfl rfl (fun w' hS => ?_) ?_
  rotate_left
  · go_simp
    rfl
  go_frame
  refine wpTold_nil fun w7 hH => ?_
  have HB7 := hide (HB6.out.trans (hH.s.mono (by omega)))
  clear hH k0 k1 k2
  go_wp2_with fail
  go_ret
  exact ⟨rfl, HB7.out⟩
end Go.Proofs.Ytpoilndlfbmhgaa
