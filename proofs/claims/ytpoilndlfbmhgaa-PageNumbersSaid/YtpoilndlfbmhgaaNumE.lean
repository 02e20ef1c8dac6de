/-
  PageNumbers: its regions, one by one (printed by pnum.py). Conditions: none.
-/
import Derived.Test.YtpoilndlfbmhgaaNumC
namespace Go.Proofs.Ytpoilndlfbmhgaa
open Go.RowKit

/-- Cells that lie in a block as they were built. -/
theorem ce_lit {w : World} {B g : Nat} {t : TypeId} {mk : Nat × Nat} {bs : List (Value × Value)} {cs : List Pag.Ce} (h : w.heap[g]? = some (.cells (prs bs).toArray t mk)) (hB : g < B) (hl : bs.length = cs.length) (hb : ∀ (i : Nat) (c : Pag.Ce) (b : Value × Value), cs[i]? = some c → bs[i]? = some b → Bd w B b.1 c.1 ∧ Bd w B b.2 c.2) : CeRd w B (some ⟨g, 0, none⟩) cs.length cs := by
  refine ⟨rfl, bs, hl, ⟨by rw [prs_len, hl], fun _ => ⟨g, 0, rfl, hB, fun j u hu => ?_⟩⟩, hb⟩
  rw [Nat.zero_add, cell_of_row w g j _ t mk h]
  simpa using hu
/-- The eight pages, as they lie in a block. -/
def BadI (w : World) (gl : Nat) : Prop := gl < w.heap.size ∧ ∀ k, k < 8 → ∃ A c, w.cell? ⟨gl, k * 3, none⟩ = some (.int .u8 ((Pag.badP k).kind.toNat : Int)) ∧ w.cell? ⟨gl, k * 3 + 1, none⟩ = some (.int .i64 (Pag.badP k).next) ∧ w.cell? ⟨gl, k * 3 + 2, none⟩ = some (.slice A (Pag.badP k).cells.length c) ∧ CeRd w w.heap.size A (Pag.badP k).cells.length (Pag.badP k).cells
set_option linter.unusedVariables false in
set_option maxRecDepth 1000000 in
set_option maxHeartbeats 16000000 in
theorem nr21 {w w2 : World}  {Q : Exit → Act → World → Prop} {a : Act} (hF : Fr a [(16, .bool true), (33, .bool true), (44, .bool true)]) (HS : St w w2 [] [])
    (h : ∀ (a' : Act) (w' : World), Fr a' [(16, .bool true), (33, .bool true), (44, .bool true)] → St w w' [] [] → Q .normal a' w') : (cL (pn 21)).wp Try.prog Q a w2 := by
  conv => arg 2; whnf
  obtain ⟨f, rfl, ⟨s16, s33, s44, _⟩, hfr⟩ := hF.open
  rw [hfr] at s16 s33 s44
  rw [s16, s33, s44]
  clear hF hfr s16 s33 s44
  have H := hide h
  clear h
  have kc := fun (w : World) (C : Array Value) (n c g : Nat) (hg : g = w.heap.size) => bytes_const_at w C n c g hg
  go_wp2_with fail
  clear kc
  obtain ⟨w3, hw3⟩ : ∃ w3, w3 = (((((((w2.alloc (.cells #[.slice none 0 0, .slice none 0 0] 41)).alloc (.cells #[.int .u8 98] 5 (1, 2))).alloc (.cells #[.int .u8 97] 5 (1, 2))).alloc (.cells #[.slice (some ⟨w2.heap.size + 1, 0, none⟩) 1 1, .slice none 0 0, .slice (some ⟨w2.heap.size + 1 + 1, 0, none⟩) 1 1, .slice none 0 0] 41)).alloc (.cells #[.int .u8 98] 5 (1, 2))).alloc (.cells #[.int .u8 98] 5 (1, 2))).alloc (.cells #[.slice (some ⟨w2.heap.size + 1 + 1 + 1 + 1, 0, none⟩) 1 1, .slice none 0 0, .slice (some ⟨w2.heap.size + 1 + 1 + 1 + 1 + 1, 0, none⟩) 1 1, .slice none 0 0] 41)) := ⟨_, rfl⟩
  rw [← hw3]
  have hs3 : w3.heap.size = w2.heap.size + 7 := by rw [hw3]; simp
  have h0 : w3.heap[w2.heap.size]? = some (.cells (prs [(.slice none 0 0, .slice none 0 0)]).toArray 41 (0, 0)) := by rw [hw3]; simp only [alloc_heap, Array.getElem?_push, Array.size_push]; simp [prs, Nat.add_assoc]
  have h1 : w3.heap[w2.heap.size + 1]? = some (.cells (([98] : List UInt8).map B8).toArray 5 (1, 2)) := by rw [hw3]; simp only [alloc_heap, Array.getElem?_push, Array.size_push]; simp [B8, Nat.add_assoc]
  have h2 : w3.heap[w2.heap.size + 1 + 1]? = some (.cells (([97] : List UInt8).map B8).toArray 5 (1, 2)) := by rw [hw3]; simp only [alloc_heap, Array.getElem?_push, Array.size_push]; simp [B8, Nat.add_assoc]
  have h3 : w3.heap[w2.heap.size + 1 + 1 + 1]? = some (.cells (prs [(.slice (some ⟨w2.heap.size + 1, 0, none⟩) 1 1, .slice none 0 0), (.slice (some ⟨w2.heap.size + 1 + 1, 0, none⟩) 1 1, .slice none 0 0)]).toArray 41 (0, 0)) := by rw [hw3]; simp only [alloc_heap, Array.getElem?_push, Array.size_push]; simp [prs, Nat.add_assoc]
  have h4 : w3.heap[w2.heap.size + 1 + 1 + 1 + 1]? = some (.cells (([98] : List UInt8).map B8).toArray 5 (1, 2)) := by rw [hw3]; simp only [alloc_heap, Array.getElem?_push, Array.size_push]; simp [B8, Nat.add_assoc]
  have h5 : w3.heap[w2.heap.size + 1 + 1 + 1 + 1 + 1]? = some (.cells (([98] : List UInt8).map B8).toArray 5 (1, 2)) := by rw [hw3]; simp only [alloc_heap, Array.getElem?_push, Array.size_push]; simp [B8, Nat.add_assoc]
  have h6 : w3.heap[w2.heap.size + 1 + 1 + 1 + 1 + 1 + 1]? = some (.cells (prs [(.slice (some ⟨w2.heap.size + 1 + 1 + 1 + 1, 0, none⟩) 1 1, .slice none 0 0), (.slice (some ⟨w2.heap.size + 1 + 1 + 1 + 1 + 1, 0, none⟩) 1 1, .slice none 0 0)]).toArray 41 (0, 0)) := by rw [hw3]; simp only [alloc_heap, Array.getElem?_push, Array.size_push]; simp [prs, Nat.add_assoc]
  have hb3 : Below w2.heap.size w2 w3 := by
    rw [hw3]
    exact (((((((Below.refl _ _).alloc (Nat.le_refl _) _).alloc (by simp) _).alloc (by simp; omega) _).alloc (by simp; omega) _).alloc (by simp; omega) _).alloc (by simp; omega) _).alloc (by simp; omega) _
  clear hw3
  have HX0 : Hid (CeRd w3 w3.heap.size (some ⟨w2.heap.size, 0, none⟩) 1 (Pag.badP 4).cells) := ce_lit (cs := (Pag.badP 4).cells) h0 (by omega) rfl fun i c b hc hb => by
    match i with
    | 0 =>
      simp [Pag.badP] at hc hb
      subst hc hb
      exact ⟨bd_nil _ _, bd_nil _ _⟩
    | i + 1 => simp at hb
  have HX3 : Hid (CeRd w3 w3.heap.size (some ⟨w2.heap.size + 1 + 1 + 1, 0, none⟩) 2 (Pag.badP 5).cells) := ce_lit (cs := (Pag.badP 5).cells) h3 (by omega) rfl fun i c b hc hb => by
    match i with
    | 0 =>
      simp [Pag.badP] at hc hb
      subst hc hb
      exact ⟨bd_cells h1 (by omega) (by simp), bd_nil _ _⟩
    | 1 =>
      simp [Pag.badP] at hc hb
      subst hc hb
      exact ⟨bd_cells h2 (by omega) (by simp), bd_nil _ _⟩
    | i + 2 => simp at hb
  have HX6 : Hid (CeRd w3 w3.heap.size (some ⟨w2.heap.size + 1 + 1 + 1 + 1 + 1 + 1, 0, none⟩) 2 (Pag.badP 6).cells) := ce_lit (cs := (Pag.badP 6).cells) h6 (by omega) rfl fun i c b hc hb => by
    match i with
    | 0 =>
      simp [Pag.badP] at hc hb
      subst hc hb
      exact ⟨bd_cells h4 (by omega) (by simp), bd_nil _ _⟩
    | 1 =>
      simp [Pag.badP] at hc hb
      subst hc hb
      exact ⟨bd_cells h5 (by omega) (by simp), bd_nil _ _⟩
    | i + 2 => simp at hb
  have HB3 := hide hb3
  clear h0 h1 h2 h3 h4 h5 h6 hb3 hs3
  with_reducible refine (two_any _).mono ?_
  rintro e w4 ⟨A4, c4, rfl, hc4, hb4⟩
  have HC4 := hide hc4
  have HB4 := hide hb4
  clear hc4 hb4
  have kf : ∀ (w : World) (A : Option Addr) (c : Nat), (Instr.field 25 (.agg #[.int .u8 1, .int .i64 0, .slice A 2 c]) 2).run Try.prog w = .ok (.slice A 2 c) w := fun _ _ _ => by kernel_rfl
  go_upto_region 22 with fail
  clear kf
  obtain ⟨w5, hw5⟩ : ∃ w5, w5 = w4.alloc (.cells #[.int .u8 3, .int .i64 0, .slice none 0 0, .int .u8 0, .int .i64 1, .slice none 0 0, .int .u8 1, .int .i64 (-1), .slice none 0 0, .int .u8 1, .int .i64 4096, .slice none 0 0, .int .u8 2, .int .i64 0, .slice (some ⟨w2.heap.size, 0, none⟩) 1 1, .int .u8 1, .int .i64 0, .slice (some ⟨w2.heap.size + 1 + 1 + 1, 0, none⟩) 2 2, .int .u8 1, .int .i64 0, .slice (some ⟨w2.heap.size + 1 + 1 + 1 + 1 + 1 + 1, 0, none⟩) 2 2, .int .u8 0, .int .i64 0, .slice A4 2 c4] 25) := ⟨_, rfl⟩
  rw [← hw5]
  obtain ⟨gl, hgl⟩ : ∃ gl, gl = w4.heap.size := ⟨_, rfl⟩
  rw [← hgl]
  have HBad : Hid (BadI w5 gl) := by
    have hb5 : Below w4.heap.size w4 w5 := by rw [hw5]; exact al _ _
    have hb35 : Below w3.heap.size w3 w5 := HB4.out.trans (hb5.mono HB4.out.size)
    have hblk : w5.heap[gl]? = some (.cells #[.int .u8 3, .int .i64 0, .slice none 0 0, .int .u8 0, .int .i64 1, .slice none 0 0, .int .u8 1, .int .i64 (-1), .slice none 0 0, .int .u8 1, .int .i64 4096, .slice none 0 0, .int .u8 2, .int .i64 0, .slice (some ⟨w2.heap.size, 0, none⟩) 1 1, .int .u8 1, .int .i64 0, .slice (some ⟨w2.heap.size + 1 + 1 + 1, 0, none⟩) 2 2, .int .u8 1, .int .i64 0, .slice (some ⟨w2.heap.size + 1 + 1 + 1 + 1 + 1 + 1, 0, none⟩) 2 2, .int .u8 0, .int .i64 0, .slice A4 2 c4] 25 (0, 0)) := by rw [hw5, hgl]; exact heap_alloc_new w4 _
    have cl := fun i => cell_of_row w5 gl i _ _ _ hblk
    refine ⟨by rw [hw5, hgl]; simp, fun k hk => ?_⟩
    match k, hk with
    | 0, _ => exact ⟨none, 0, (cl 0).trans rfl, (cl 1).trans rfl, (cl 2).trans rfl, CeRd.nil _ _ _⟩
    | 1, _ => exact ⟨none, 0, (cl 3).trans rfl, (cl 4).trans rfl, (cl 5).trans rfl, CeRd.nil _ _ _⟩
    | 2, _ => exact ⟨none, 0, (cl 6).trans rfl, (cl 7).trans rfl, (cl 8).trans rfl, CeRd.nil _ _ _⟩
    | 3, _ => exact ⟨none, 0, (cl 9).trans rfl, (cl 10).trans rfl, (cl 11).trans rfl, CeRd.nil _ _ _⟩
    | 4, _ => exact ⟨(some ⟨w2.heap.size, 0, none⟩), 1, (cl 12).trans rfl, (cl 13).trans rfl, (cl 14).trans rfl, (HX0.out.below hb35 (Nat.le_refl _)).more hb35.size⟩
    | 5, _ => exact ⟨(some ⟨w2.heap.size + 1 + 1 + 1, 0, none⟩), 2, (cl 15).trans rfl, (cl 16).trans rfl, (cl 17).trans rfl, (HX3.out.below hb35 (Nat.le_refl _)).more hb35.size⟩
    | 6, _ => exact ⟨(some ⟨w2.heap.size + 1 + 1 + 1 + 1 + 1 + 1, 0, none⟩), 2, (cl 18).trans rfl, (cl 19).trans rfl, (cl 20).trans rfl, (HX6.out.below hb35 (Nat.le_refl _)).more hb35.size⟩
    | 7, _ => exact ⟨A4, c4, (cl 21).trans rfl, (cl 22).trans rfl, (cl 23).trans rfl, HC4.out.below hb5 (Nat.le_refl _) |>.more hb5.size⟩
    | k + 8, h => exact absurd h (by omega)
  have HS5 : Hid (St w w5 [] []) := (((HS.below HB3.out).below HB4.out).below (by rw [hw5]; exact al _ _))
  clear hw5 hgl HS
  go_loopg [306] 8 (fun gg i wr => ∃ k : Nat, k ≤ 8 ∧ gg = 8 - k ∧ i = .int .i64 (k : Nat) ∧ Below w5.heap.size w5 wr)
  case atStart => exact ⟨0, Nat.zero_le _, rfl, rfl, Below.refl _ _⟩
  case round =>
    obtain ⟨k, hk, rfl, rfl, hbel⟩ := hrel
    obtain ⟨w6, hw6⟩ : ∃ w6, w6 = wr := ⟨_, rfl⟩
    subst hw6
    have HB6 := hide hbel
    have HS6 := hide (HS5.out.below hbel)
    clear hbel
    by_cases hlt : k < 8
    · have hlt' : decide ((k : Int) < 8) = true := by simp; omega
      obtain ⟨A, c, c0, c1, c2, hce⟩ := HBad.out.2 k hlt
      replace c0 := (HB6.out.cell (p := ⟨gl, k * 3, none⟩) HBad.out.1).trans c0
      replace c1 := (HB6.out.cell (p := ⟨gl, k * 3 + 1, none⟩) HBad.out.1).trans c1
      replace c2 := (HB6.out.cell (p := ⟨gl, k * 3 + 2, none⟩) HBad.out.1).trans c2
      have HCe := hide (ce_below hce HB6.out)
      have HPk := hide (Pag.bad_pack k)
      obtain ⟨p, hp⟩ : ∃ p, p = Pag.badP k := ⟨_, rfl⟩
      rw [← hp] at c0 c1 c2 HCe HPk
      obtain ⟨kd, nx, cs⟩ := p
      have hn : cs.length ≤ 2 := by
        have : (Pag.badP k).cells.length ≤ 2 := by
          unfold Pag.badP
          split <;> decide
        rw [← hp] at this
        exact this
      simp only at c0 c1 c2 HCe
      clear hce hp
      obtain ⟨n, hnl⟩ : ∃ n, n = cs.length := ⟨_, rfl⟩
      rw [← hnl] at c2 HCe hn
      clear hnl
      obtain ⟨w7, hw7⟩ : ∃ w7, w7 = w6.alloc (.cells #[.int .u8 (kd.toNat : Int), .int .i64 nx, .slice A n c] 25) := ⟨_, rfl⟩
      have HK7 : Hid (Blk w7 w6.heap.size 25 #[.int .u8 (kd.toNat : Int), .int .i64 nx, .slice A n c]) := by rw [hw7]; exact Blk.new _ _ _
      have hb7 : Below w6.heap.size w6 w7 := by rw [hw7]; exact al _ _
      have HC7 := hide (ce_below HCe.out hb7)
      have HB7 := hide (HB6.out.trans (hb7.mono HB6.out.size))
      clear hb7
      go_upto_region 24 with fail
      rw [← hw7]
      clear hw7 c0 c1 c2
      have q0 := HK7.out.cell 0
      have q1 := HK7.out.cell 1
      have q2 := HK7.out.cell 2
      simp at q0 q1 q2
      go_wp2_with fail
      with_reducible refine (pack_bd HC7.out (by omega) (kd := kd) rfl (m := 2) HPk.out rfl).mono ?_
      rintro e w8 ⟨v, rfl, hv, hb8⟩
      obtain ⟨A8, c8, rfl, _⟩ := hv
      have HB8 := hide (HB7.out.trans (hb8.mono HB7.out.size))
      clear hb8 q0 q1 q2 HB6 HB7 HS6 HCe HC7
      go_wp2_with fail
      go_roundg (8 - (k + 1))
      case measure => omega
      case rel => exact ⟨k + 1, by omega, rfl, by go_num, HB8.out⟩
    · obtain rfl : k = 8 := by omega
      go_wp2_with fail
      exact H.out _ _ ⟨rfl, rfl, rfl, rfl, rfl, trivial⟩ HS6.out

end Go.Proofs.Ytpoilndlfbmhgaa

/-
  PageNumbers: its regions, one by one (printed by pnum.py). Conditions: none.
-/
namespace Go.Proofs.Ytpoilndlfbmhgaa
open Go.RowKit

/-- The page that is filled: its block, its cells. -/
structure FI (w wr : World) (gf : Nat) (v : Value) (k : Nat) : Prop where
  bel : Below w.heap.size w wr
  blk : Blk wr gf 25 #[.int .u8 1, .int .i64 4095, v]
  own : CeOwn wr w.heap.size 0 v (Pag.fullC k)
  lo : w.heap.size ≤ gf
theorem FI.below {w w1 w2 : World} {gf k : Nat} {v : Value} (h : FI w w1 gf v k) (hb : Below w1.heap.size w1 w2) : FI w w2 gf v k :=
  ⟨h.bel.trans (hb.mono h.bel.size), h.blk.below hb h.blk.lt, h.own.below hb h.bel.size, h.lo⟩
theorem FI.form {w w1 : World} {gf k : Nat} {v : Value} (h : FI w w1 gf v k) : ∃ A c, v = .slice A k c ∧ k ≤ c ∧ c ≤ 9223372036854775807 := by
  obtain ⟨A, c, e, h1, h2⟩ := h.own.form
  rw [Pag.fullC_len] at e h1
  exact ⟨A, c, e, h1, h2⟩
def OwF (h0 n : Nat) (l : List UInt8) : Fact := fun u w => w.ownsRow h0 5 1 u n (l.map B8)
theorem OwF.stable (h0 n : Nat) (l : List UInt8) : StableF (OwF h0 n l) := fun _ _ _ h hb => own_below h hb
/-- A literal of one byte, owned. -/
theorem lit_own {w : World} {h0 : Nat} (c : UInt8) {n : Int} (hn : (c.toNat : Int) = n) (hh : h0 ≤ w.heap.size) : (w.alloc (.cells #[.int .u8 n] 5)).ownsRow h0 5 1 (.slice (some ⟨w.heap.size, 0, none⟩) 1 1) 1 (([c] : List UInt8).map B8) := by
  subst hn
  exact own_blk (xs := [B8 c]) (Blk.new w _ _) hh rfl (by unfold maxLen; omega)
theorem u8_of {k : Nat} (h : k < 256) : (((UInt8.ofNat k).toNat : Nat) : Int) = (k : Int) := by
  rw [UInt8.toNat_ofNat', Nat.mod_eq_of_lt h]
set_option linter.unusedVariables false in
set_option maxRecDepth 1000000 in
set_option maxHeartbeats 16000000 in
theorem nr22 {w w2 : World}  {Q : Exit → Act → World → Prop} {a : Act} (hF : Fr a [(16, .bool true), (33, .bool true), (44, .bool true)]) (HS : St w w2 [] [])
    (h : ∀ (a' : Act) (w' : World) gf, Fr a' [(16, .bool true), (33, .bool true), (44, .bool true), (49, .pointer (some ⟨gf, 0, none⟩))] → FI w w' gf (.slice none 0 0) 0 → Q .normal a' w') : (cL (pn 22)).wp Try.prog Q a w2 := by
  conv => arg 2; whnf
  obtain ⟨f, rfl, ⟨s16, s33, s44, _⟩, hfr⟩ := hF.open
  rw [hfr] at s16 s33 s44
  rw [s16, s33, s44]
  clear hF hfr s16 s33 s44
  have H := hide h
  clear h
  obtain ⟨w3, hw3⟩ : ∃ w3, w3 = w2.alloc (.cells #[.int .u8 1, .int .i64 4095, .slice none 0 0] 25) := ⟨_, rfl⟩
  have HF : Hid (FI w w3 w2.heap.size (.slice none 0 0) 0) := by
    rw [hw3]
    exact ⟨(HS.alloc _).bel, Blk.new _ _ _, CeOwn.nil _ _ _, HS.bel.size⟩
  go_wp2_with fail
  rw [← hw3]
  exact H.out _ _ _ ⟨rfl, rfl, rfl, rfl, rfl, rfl, trivial⟩ HF.out
set_option linter.unusedVariables false in
set_option maxRecDepth 1000000 in
set_option maxHeartbeats 16000000 in
theorem nr23 {w w2 : World} {gf : Nat} {Q : Exit → Act → World → Prop} {a : Act} (hF : Fr a [(16, .bool true), (33, .bool true), (44, .bool true), (49, .pointer (some ⟨gf, 0, none⟩))]) (HS : FI w w2 gf (.slice none 0 0) 0)
    (h : ∀ (a' : Act) (w' : World) v, Fr a' [(16, .bool true), (33, .bool true), (44, .bool true), (49, .pointer (some ⟨gf, 0, none⟩))] → FI w w' gf v 5 → Q .normal a' w') : (cL (pn 23)).wp Try.prog Q a w2 := by
  conv => arg 2; whnf
  obtain ⟨f, rfl, ⟨s16, s33, s44, s49, _⟩, hfr⟩ := hF.open
  rw [hfr] at s16 s33 s44 s49
  rw [s16, s33, s44, s49]
  clear hF hfr s16 s33 s44 s49
  have H := hide h
  clear h
  have HF0 := hide HS
  clear HS
  go_wp2_with fail
  go_loopg [50] 5 (fun gg i wr => ∃ (k : Nat) (v : Value), 0 ≤ k ∧ k ≤ 5 ∧ gg = 5 - k ∧ i = .int .i64 (k : Nat) ∧ FI w wr gf v k)
  case atStart => exact ⟨0, (.slice none 0 0), by omega, by omega, rfl, rfl, HF0.out⟩
  case round =>
    obtain ⟨k, v, hk0, hk, rfl, rfl, hF⟩ := hrel
    obtain ⟨w6, hw6⟩ : ∃ w6, w6 = wr := ⟨_, rfl⟩
    subst hw6
    have HF := hide hF
    clear hF HF0
    by_cases hlt : k < 5
    · have hlt' : decide ((k : Int) < 5) = true := by simp; omega
      obtain ⟨A, c, rfl, hkc1, hkc2⟩ := HF.out.form
      have q2 := HF.out.blk.cell 2
      simp at q2
      have hgf := HF.out.blk.lt
      have hlo := HF.out.lo
      have hs6 := HF.out.bel.size
      go_upto_region 32 with fail
      have hTs := tab_stable (l := [(4, OwF w6.heap.size 1 [UInt8.ofNat k]), (5, OwF w6.heap.size 576 (Pag.zs 576))]) (fun p hp => by
          simp only [List.mem_cons, List.not_mem_nil, or_false] at hp
          rcases hp with rfl | rfl
          · exact OwF.stable _ _ _
          · exact OwF.stable _ _ _)
      have hSs := shp_some (l := [(4, IsSl 1), (5, IsSl 576)]) (fun p hp => by
          simp only [List.mem_cons, List.not_mem_nil, or_false] at hp
          rcases hp with rfl | rfl
          · exact IsSl.some _
          · exact IsSl.some _)
      have HTs := hide hTs
      have HSs := hide hSs
      clear hTs hSs
      refine wp_region_toldL (tab [(4, OwF w6.heap.size 1 [UInt8.ofNat k]), (5, OwF w6.heap.size 576 (Pag.zs 576))]) (Up w6) (w6.heap.size) 8 (shp [(4, IsSl 1), (5, IsSl 576)]) (HSs.out) (HTs.out) (Up.lives _) Gro (Gro.turns (Up.lives _) (HTs.out)) (by kernel_rfl) (by kernel_rfl) (Up.start _) (Nat.le_refl _) ?_
      simp only [List.take_succ_cons, List.take_zero, List.drop_succ_cons, List.drop_zero]
      refine wpTold_read ?_ rfl rfl (fun w' hS => ?_) ?_
      rotate_left
      · go_simp
        rfl
      go_frame
      refine wpTold_read ?_ rfl rfl (fun w' hS => ?_) ?_
      rotate_left
      · have q2' := (hS.cell (p := ⟨gf, 2, none⟩) hgf).trans q2
        go_simp
        rfl
      go_frame
      refine wpTold_read ?_ rfl rfl (fun w' hS => ?_) ?_
      rotate_left
      · go_simp
        rfl
      go_frame
      refine wpTold_read ?_ rfl rfl (fun w' hS => ?_) ?_
      rotate_left
      · have s3 : IntKind.u8.wrap (k : Int) = (k : Int) := by unfold IntKind.wrap; simp [IntKind.bits, IntKind.signed]; omega
        go_simp
        rfl
      go_frame
      refine wpTold_tell _ rfl rfl (fun w' hS hh hs => ?_) (fun v4 h4 => ?_)
      · exact ⟨_, _, by go_simp <;> rfl, ⟨⟨_, _, rfl⟩, lit_own _ (u8_of (by omega)) hh⟩, al _ _⟩
      obtain ⟨A4, c4, rfl⟩ := h4
      go_frame
      refine wpTold_tell _ rfl rfl (fun w' hS hh hs => ?_) (fun v5 h5 => ?_)
      · obtain ⟨v, w9, hrun, ho, hb⟩ := run_zs (w := w') 576 (by omega)
        exact ⟨v, w9, exec_zs 576 _ _ rfl rfl rfl hrun, ⟨own_sl ho, own_base ho hh⟩, hb⟩
      obtain ⟨A5, c5, rfl⟩ := h5
      go_frame
      refine wpTold_read ?_ rfl rfl (fun w' hS => ?_) ?_
      rotate_left
      · go_simp
        rfl
      go_frame
      refine wpTold_make (some (1, 1)) (.cells #[.slice A4 1 c4, .slice A5 576 c5] 41) rfl rfl (fun w' hS => ?_) fun g7 => ?_
      · go_simp
        rfl
      go_frame
      refine wpTold_nil fun w2 hH => ?_
      have h4 := hH.told 4 _ _ rfl rfl
      have h5 := hH.told 5 _ _ rfl rfl
      have h7 : Blk w2 g7 41 #[.slice A4 1 c4, .slice A5 576 c5] := (hH.lies 7 _ _ rfl).1
      have hup : Below w6.heap.size w6 w2 := hH.s
      have hb4 : Bo w2 w.heap.size 0 (.slice A4 1 c4) [UInt8.ofNat k] := .inl ⟨own_base h4 hs6, by simp⟩
      have hb5 : Bo w2 w.heap.size 0 (.slice A5 576 c5) (Pag.zs 576) := .inl ⟨by rw [Pag.zs_len]; exact own_base h5 hs6, by rw [Pag.zs_len]; omega⟩
      have HF2 := hide (HF.out.below hup)
      have H4 := hide hb4
      have H5 := hide hb5
      have H7 := hide h7
      have hs2 := hup.size
      have hclen : (Pag.fullC k).length ≤ 8 := by rw [Pag.fullC_len]; omega
      have HB2 := hide hup
      clear hH h4 h5 h7 hup hb4 hb5 q2
      go_wp2_with (at_builtin; refine wpList_appCg rfl (.tmp 329) (.tmp 335) rfl w.heap.size 0 _ (Pag.fullC k) rfl HF2.out.own g7 1 ([UInt8.ofNat k], Pag.zs 576) _ _ H4.out H5.out rfl H7.out (by omega) (by omega) ?_; intro v3 w3 ho3 hb3 hk3; obtain ⟨n3, A3, c3, rfl⟩ : ∃ n3 A3 c3, v3 = .slice A3 n3 c3 := (by obtain ⟨A3, c3, e, _⟩ := ho3.form; exact ⟨_, A3, c3, e⟩); have HO3 := hide ho3; have HB3 := hide hb3; have HBP3 := hide (hk3 _ _ _ HF2.out.blk (by decide)); have f2 := HBP3.out.frozen 2; have z2 := HBP3.out.cell 2; simp at z2; clear ho3 hb3 hk3)
      go_roundg (5 - (k + 1))
      case measure => omega
      case rel =>
        refine ⟨k + 1, .slice A3 n3 c3, by omega, by omega, rfl, by go_num, ⟨?_, ?_, ?_, hlo⟩⟩
        · exact ((HF2.out.bel).trans HB3.out).setCell hlo _
        · simpa using HBP3.out.put 2 (.slice A3 n3 c3)
        · have ho := HO3.out
          rw [← Pag.fullC_z] at ho
          exact ho.box HBP3.out hlo _ _
    · obtain rfl : k = 5 := by omega
      go_wp2_with fail
      exact H.out _ _ v ⟨rfl, rfl, rfl, rfl, rfl, rfl, trivial⟩ HF.out

set_option linter.unusedVariables false in
set_option maxRecDepth 1000000 in
set_option maxHeartbeats 16000000 in
theorem nr24 {w w2 : World} {gf : Nat} {v : Value} {FB : List UInt8} {Q : Exit → Act → World → Prop} {a : Act} (hF : Fr a [(16, .bool true), (33, .bool true), (44, .bool true), (49, .pointer (some ⟨gf, 0, none⟩))]) (HS : FI w w2 gf v 5) (hp : Pag.pack ⟨1, 4095, Pag.fullC 5⟩ = (0, FB))
    (h : ∀ (a' : Act) (w' : World), Fr a' [(16, .bool true), (33, .bool true), (44, .bool true), (49, .pointer (some ⟨gf, 0, none⟩)), (52, .int .i64 0)] → FI w w' gf v 5 → Q .normal a' w') : (cL (pn 24)).wp Try.prog Q a w2 := by
  conv => arg 2; whnf
  obtain ⟨f, rfl, ⟨s16, s33, s44, s49, _⟩, hfr⟩ := hF.open
  rw [hfr] at s16 s33 s44 s49
  rw [s16, s33, s44, s49]
  clear hF hfr s16 s33 s44 s49
  have H := hide h
  clear h
  obtain ⟨A, c, rfl, _, _⟩ := HS.form
  have HF := hide HS
  have q0 := HS.blk.cell 0
  have q1 := HS.blk.cell 1
  have q2 := HS.blk.cell 2
  simp at q0 q1 q2
  clear HS
  go_wp2_with fail
  with_reducible refine (pack_bd (kd := 1) (K := 1) (nx := 4095) (m := 0) (cs := Pag.fullC 5) (HF.out.own.rd (Pag.fullC_len 5).symm HF.out.bel.size) (by omega) (by decide) hp (by decide)).mono ?_
  rintro e w5 ⟨r, rfl, hr, hb⟩
  have HF5 := hide (HF.out.below hb)
  clear hr hb q0 q1 q2
  go_wp2_with fail
  exact H.out _ _ ⟨rfl, rfl, rfl, rfl, rfl, rfl, rfl, trivial⟩ HF5.out
set_option linter.unusedVariables false in
set_option maxRecDepth 1000000 in
set_option maxHeartbeats 16000000 in
theorem nr25 {w w2 : World} {gf : Nat} {v0 : Value} {Q : Exit → Act → World → Prop} {a : Act} (hF : Fr a [(16, .bool true), (33, .bool true), (44, .bool true), (49, .pointer (some ⟨gf, 0, none⟩)), (52, .int .i64 0)]) (HS : FI w w2 gf v0 5)
    (h : ∀ (a' : Act) (w' : World) v, Fr a' [(16, .bool true), (33, .bool true), (44, .bool true), (49, .pointer (some ⟨gf, 0, none⟩)), (52, .int .i64 0)] → FI w w' gf v 8 → Q .normal a' w') : (cL (pn 25)).wp Try.prog Q a w2 := by
  conv => arg 2; whnf
  obtain ⟨f, rfl, ⟨s16, s33, s44, s49, s52, _⟩, hfr⟩ := hF.open
  rw [hfr] at s16 s33 s44 s49 s52
  rw [s16, s33, s44, s49, s52]
  clear hF hfr s16 s33 s44 s49 s52
  have H := hide h
  clear h
  have HF0 := hide HS
  clear HS
  go_wp2_with fail
  go_loopg [53] 3 (fun gg i wr => ∃ (k : Nat) (v : Value), 5 ≤ k ∧ k ≤ 8 ∧ gg = 8 - k ∧ i = .int .i64 (k : Nat) ∧ FI w wr gf v k)
  case atStart => exact ⟨5, v0, by omega, by omega, rfl, rfl, HF0.out⟩
  case round =>
    obtain ⟨k, v, hk0, hk, rfl, rfl, hF⟩ := hrel
    obtain ⟨w6, hw6⟩ : ∃ w6, w6 = wr := ⟨_, rfl⟩
    subst hw6
    have HF := hide hF
    clear hF HF0
    by_cases hlt : k < 8
    · have hlt' : decide ((k : Int) < 8) = true := by simp; omega
      obtain ⟨A, c, rfl, hkc1, hkc2⟩ := HF.out.form
      have q2 := HF.out.blk.cell 2
      simp at q2
      have hgf := HF.out.blk.lt
      have hlo := HF.out.lo
      have hs6 := HF.out.bel.size
      go_upto_region 37 with fail
      have hTs := tab_stable (l := [(4, OwF w6.heap.size 1 [UInt8.ofNat k]), (5, OwF w6.heap.size 576 (Pag.zs 576))]) (fun p hp => by
          simp only [List.mem_cons, List.not_mem_nil, or_false] at hp
          rcases hp with rfl | rfl
          · exact OwF.stable _ _ _
          · exact OwF.stable _ _ _)
      have hSs := shp_some (l := [(4, IsSl 1), (5, IsSl 576)]) (fun p hp => by
          simp only [List.mem_cons, List.not_mem_nil, or_false] at hp
          rcases hp with rfl | rfl
          · exact IsSl.some _
          · exact IsSl.some _)
      have HTs := hide hTs
      have HSs := hide hSs
      clear hTs hSs
      refine wp_region_toldL (tab [(4, OwF w6.heap.size 1 [UInt8.ofNat k]), (5, OwF w6.heap.size 576 (Pag.zs 576))]) (Up w6) (w6.heap.size) 8 (shp [(4, IsSl 1), (5, IsSl 576)]) (HSs.out) (HTs.out) (Up.lives _) Gro (Gro.turns (Up.lives _) (HTs.out)) (by kernel_rfl) (by kernel_rfl) (Up.start _) (Nat.le_refl _) ?_
      simp only [List.take_succ_cons, List.take_zero, List.drop_succ_cons, List.drop_zero]
      refine wpTold_read ?_ rfl rfl (fun w' hS => ?_) ?_
      rotate_left
      · go_simp
        rfl
      go_frame
      refine wpTold_read ?_ rfl rfl (fun w' hS => ?_) ?_
      rotate_left
      · have q2' := (hS.cell (p := ⟨gf, 2, none⟩) hgf).trans q2
        go_simp
        rfl
      go_frame
      refine wpTold_read ?_ rfl rfl (fun w' hS => ?_) ?_
      rotate_left
      · go_simp
        rfl
      go_frame
      refine wpTold_read ?_ rfl rfl (fun w' hS => ?_) ?_
      rotate_left
      · have s3 : IntKind.u8.wrap (k : Int) = (k : Int) := by unfold IntKind.wrap; simp [IntKind.bits, IntKind.signed]; omega
        go_simp
        rfl
      go_frame
      refine wpTold_tell _ rfl rfl (fun w' hS hh hs => ?_) (fun v4 h4 => ?_)
      · exact ⟨_, _, by go_simp <;> rfl, ⟨⟨_, _, rfl⟩, lit_own _ (u8_of (by omega)) hh⟩, al _ _⟩
      obtain ⟨A4, c4, rfl⟩ := h4
      go_frame
      refine wpTold_tell _ rfl rfl (fun w' hS hh hs => ?_) (fun v5 h5 => ?_)
      · obtain ⟨v, w9, hrun, ho, hb⟩ := run_zs (w := w') 576 (by omega)
        exact ⟨v, w9, exec_zs 576 _ _ rfl rfl rfl hrun, ⟨own_sl ho, own_base ho hh⟩, hb⟩
      obtain ⟨A5, c5, rfl⟩ := h5
      go_frame
      refine wpTold_read ?_ rfl rfl (fun w' hS => ?_) ?_
      rotate_left
      · go_simp
        rfl
      go_frame
      refine wpTold_make (some (1, 1)) (.cells #[.slice A4 1 c4, .slice A5 576 c5] 41) rfl rfl (fun w' hS => ?_) fun g7 => ?_
      · go_simp
        rfl
      go_frame
      refine wpTold_nil fun w2 hH => ?_
      have h4 := hH.told 4 _ _ rfl rfl
      have h5 := hH.told 5 _ _ rfl rfl
      have h7 : Blk w2 g7 41 #[.slice A4 1 c4, .slice A5 576 c5] := (hH.lies 7 _ _ rfl).1
      have hup : Below w6.heap.size w6 w2 := hH.s
      have hb4 : Bo w2 w.heap.size 0 (.slice A4 1 c4) [UInt8.ofNat k] := .inl ⟨own_base h4 hs6, by simp⟩
      have hb5 : Bo w2 w.heap.size 0 (.slice A5 576 c5) (Pag.zs 576) := .inl ⟨by rw [Pag.zs_len]; exact own_base h5 hs6, by rw [Pag.zs_len]; omega⟩
      have HF2 := hide (HF.out.below hup)
      have H4 := hide hb4
      have H5 := hide hb5
      have H7 := hide h7
      have hs2 := hup.size
      have hclen : (Pag.fullC k).length ≤ 8 := by rw [Pag.fullC_len]; omega
      have HB2 := hide hup
      clear hH h4 h5 h7 hup hb4 hb5 q2
      go_wp2_with (at_builtin; refine wpList_appCg rfl (.tmp 348) (.tmp 354) rfl w.heap.size 0 _ (Pag.fullC k) rfl HF2.out.own g7 1 ([UInt8.ofNat k], Pag.zs 576) _ _ H4.out H5.out rfl H7.out (by omega) (by omega) ?_; intro v3 w3 ho3 hb3 hk3; obtain ⟨n3, A3, c3, rfl⟩ : ∃ n3 A3 c3, v3 = .slice A3 n3 c3 := (by obtain ⟨A3, c3, e, _⟩ := ho3.form; exact ⟨_, A3, c3, e⟩); have HO3 := hide ho3; have HB3 := hide hb3; have HBP3 := hide (hk3 _ _ _ HF2.out.blk (by decide)); have f2 := HBP3.out.frozen 2; have z2 := HBP3.out.cell 2; simp at z2; clear ho3 hb3 hk3)
      go_roundg (8 - (k + 1))
      case measure => omega
      case rel =>
        refine ⟨k + 1, .slice A3 n3 c3, by omega, by omega, rfl, by go_num, ⟨?_, ?_, ?_, hlo⟩⟩
        · exact ((HF2.out.bel).trans HB3.out).setCell hlo _
        · simpa using HBP3.out.put 2 (.slice A3 n3 c3)
        · have ho := HO3.out
          rw [← Pag.fullC_z] at ho
          exact ho.box HBP3.out hlo _ _
    · obtain rfl : k = 8 := by omega
      go_wp2_with fail
      exact H.out _ _ v ⟨rfl, rfl, rfl, rfl, rfl, rfl, rfl, trivial⟩ HF.out

set_option linter.unusedVariables false in
set_option maxRecDepth 1000000 in
set_option maxHeartbeats 16000000 in
theorem nr26 {w w2 : World} {gf : Nat} {v : Value} {Q : Exit → Act → World → Prop} {a : Act} (hF : Fr a [(16, .bool true), (33, .bool true), (44, .bool true), (49, .pointer (some ⟨gf, 0, none⟩)), (52, .int .i64 0)]) (HS : FI w w2 gf v 8)
    (h : ∀ (a' : Act) (w' : World), Fr a' [(16, .bool true), (33, .bool true), (44, .bool true), (49, .pointer (some ⟨gf, 0, none⟩)), (52, .int .i64 0), (55, .int .i64 5)] → FI w w' gf v 8 → Q .normal a' w') : (cL (pn 26)).wp Try.prog Q a w2 := by
  conv => arg 2; whnf
  obtain ⟨f, rfl, ⟨s16, s33, s44, s49, s52, _⟩, hfr⟩ := hF.open
  rw [hfr] at s16 s33 s44 s49 s52
  rw [s16, s33, s44, s49, s52]
  clear hF hfr s16 s33 s44 s49 s52
  have H := hide h
  clear h
  obtain ⟨A, c, rfl, _, _⟩ := HS.form
  have HF := hide HS
  have q0 := HS.blk.cell 0
  have q1 := HS.blk.cell 1
  have q2 := HS.blk.cell 2
  simp at q0 q1 q2
  clear HS
  go_wp2_with fail
  with_reducible refine (pack_bd (kd := 1) (K := 1) (nx := 4095) (m := 5) (cs := Pag.fullC 8) (HF.out.own.rd (Pag.fullC_len 8).symm HF.out.bel.size) (by omega) (by decide) Pag.pack_eight (by decide)).mono ?_
  rintro e w5 ⟨r, rfl, hr, hb⟩
  have HF5 := hide (HF.out.below hb)
  clear hr hb q0 q1 q2
  go_wp2_with fail
  exact H.out _ _ ⟨rfl, rfl, rfl, rfl, rfl, rfl, rfl, rfl, trivial⟩ HF5.out
set_option linter.unusedVariables false in
set_option maxRecDepth 1000000 in
set_option maxHeartbeats 16000000 in
theorem nr27 {w w2 : World} {gf : Nat} {v : Value} {Q : Exit → Act → World → Prop} {a : Act} (hF : Fr a [(16, .bool true), (33, .bool true), (44, .bool true), (49, .pointer (some ⟨gf, 0, none⟩)), (52, .int .i64 0), (55, .int .i64 5)]) (HS : FI w w2 gf v 8)
    (h : ∀ (a' : Act) (w' : World) g6 A c, Fr a' [(16, .bool true), (33, .bool true), (44, .bool true), (52, .int .i64 0), (55, .int .i64 5), (56, .pointer (some ⟨g6, 0, none⟩))] → Below w.heap.size w w' → Blk w' g6 25 #[.int .u8 1, .int .i64 0, .slice A 6 c] → CeRd w' w'.heap.size A 6 (Pag.fullC 6) → Q .normal a' w') : (cL (pn 27)).wp Try.prog Q a w2 := by
  conv => arg 2; whnf
  obtain ⟨f, rfl, ⟨s16, s33, s44, s49, s52, s55, _⟩, hfr⟩ := hF.open
  rw [hfr] at s16 s33 s44 s49 s52 s55
  rw [s16, s33, s44, s49, s52, s55]
  clear hF hfr s16 s33 s44 s49 s52 s55
  have H := hide h
  clear h
  obtain ⟨A, c, rfl, hc1, hc2⟩ := HS.form
  have HB := hide HS.bel
  have q2 := HS.blk.cell 2
  simp at q2
  have hrd := (HS.own.rd (Pag.fullC_len 8).symm HS.bel.size).take (m := 6) (by omega)
  rw [Pag.full_take 8 6 (by omega)] at hrd
  have HRd := hide hrd
  clear HS hrd
  have sl := run_cTo w2 A 8 c 6 6 rfl (by omega)
  obtain ⟨w3, hw3⟩ : ∃ w3, w3 = w2.alloc (.cells #[.int .u8 1, .int .i64 0, .slice A 6 c] 25) := ⟨_, rfl⟩
  have HK3 : Hid (Blk w3 w2.heap.size 25 #[.int .u8 1, .int .i64 0, .slice A 6 c]) := by rw [hw3]; exact Blk.new _ _ _
  have hb3 : Below w2.heap.size w2 w3 := by rw [hw3]; exact al _ _
  have HB3 := hide (HB.out.trans (hb3.mono HB.out.size))
  have HR3 := hide (ce_below HRd.out hb3)
  clear hb3
  go_wp2_with fail
  rw [← hw3]
  exact H.out _ _ _ _ _ ⟨rfl, rfl, rfl, rfl, rfl, rfl, rfl, rfl, trivial⟩ HB3.out HK3.out HR3.out

set_option linter.unusedVariables false in
set_option maxRecDepth 1000000 in
set_option maxHeartbeats 16000000 in
theorem nr28 {w w2 : World} {g6 c : Nat} {A : Option Addr} {J : List UInt8} {Q : Exit → Act → World → Prop} {a : Act} (hF : Fr a [(16, .bool true), (33, .bool true), (44, .bool true), (52, .int .i64 0), (55, .int .i64 5), (56, .pointer (some ⟨g6, 0, none⟩))]) (HS : Blk w2 g6 25 #[.int .u8 1, .int .i64 0, .slice A 6 c]) (HB0 : Below w.heap.size w w2) (HR : CeRd w2 w2.heap.size A 6 (Pag.fullC 6)) (hp : Pag.pack ⟨1, 0, Pag.fullC 6⟩ = (0, J))
    (h : ∀ (a' : Act) (w' : World) j, Fr a' [(16, .bool true), (33, .bool true), (44, .bool true), (52, .int .i64 0), (55, .int .i64 5), (57, j)] → St w w' [(j, J)] [] → Q .normal a' w') : (cL (pn 28)).wp Try.prog Q a w2 := by
  conv => arg 2; whnf
  obtain ⟨f, rfl, ⟨s16, s33, s44, s52, s55, s56, _⟩, hfr⟩ := hF.open
  rw [hfr] at s16 s33 s44 s52 s55 s56
  rw [s16, s33, s44, s52, s55, s56]
  clear hF hfr s16 s33 s44 s52 s55 s56
  have H := hide h
  clear h
  have HRd := hide HR
  have HB := hide HB0
  have q0 := HS.cell 0
  have q1 := HS.cell 1
  have q2 := HS.cell 2
  simp at q0 q1 q2
  clear HS HR HB0
  go_wp2_with fail
  with_reducible refine (pack_bd (kd := 1) (K := 1) (nx := 0) (m := 0) (cs := Pag.fullC 6) HRd.out (by omega) (by decide) hp (by decide)).mono ?_
  rintro e w5 ⟨r, rfl, hr, hb⟩
  have HS5 : Hid (St w w5 [(r, J)] []) := (St.cons (⟨HB.out.trans (hb.mono HB.out.size), fun _ _ h => absurd h (by simp), fun _ _ h => absurd h (by simp)⟩ : St w w5 [] []) hr)
  clear hr hb q0 q1 q2
  go_wp2_with fail
  exact H.out _ _ _ ⟨rfl, rfl, rfl, rfl, rfl, rfl, rfl, rfl, trivial⟩ HS5.out
set_option linter.unusedVariables false in
set_option maxRecDepth 1000000 in
set_option maxHeartbeats 16000000 in
theorem nr29 {w w2 : World} {j : Value} {J X : List UInt8} {Q : Exit → Act → World → Prop} {a : Act} (hF : Fr a [(16, .bool true), (33, .bool true), (44, .bool true), (52, .int .i64 0), (55, .int .i64 5), (57, j)]) (HS : St w w2 [(j, J)] []) (hp : Pag.putB J [9] (Pag.zs 567) = (0, X))
    (h : ∀ (a' : Act) (w' : World), Fr a' [(16, .bool true), (33, .bool true), (44, .bool true), (52, .int .i64 0), (55, .int .i64 5), (57, j), (60, .int .i64 0)] → St w w' [(j, J)] [] → Q .normal a' w') : (cL (pn 29)).wp Try.prog Q a w2 := by
  conv => arg 2; whnf
  obtain ⟨f, rfl, ⟨s16, s33, s44, s52, s55, s57, _⟩, hfr⟩ := hF.open
  rw [hfr] at s16 s33 s44 s52 s55 s57
  rw [s16, s33, s44, s52, s55, s57]
  clear hF hfr s16 s33 s44 s52 s55 s57
  have H := hide h
  clear h
  have HL := hide (lit_bd (w := w2) 9 (0, 0) (n := 9) rfl)
  have HS3 := HS.alloc (.cells #[.int .u8 9] 5 (0, 0))
  go_wp2_with (at_make; refine wpList_zs 567 (by omega) rfl _ _ rfl rfl rfl rfl rfl ?_; intro v3 w3 hv3 hb3; have HV := hide hv3; have HL3 := hide (bd_below HL.out hb3); replace HS3 := HS3.below hb3; clear hv3 hb3 HS HL)
  with_reducible refine (put_bd (HS3.rd j J (by simp)) HL3.out HV.out (m := 0) hp rfl).mono ?_
  rintro e w5 ⟨r, rfl, hr, hb⟩
  have HS5 := HS3.below hb
  clear hr hb HS3
  go_wp2_with fail
  exact H.out _ _ ⟨rfl, rfl, rfl, rfl, rfl, rfl, rfl, rfl, rfl, trivial⟩ HS5
set_option linter.unusedVariables false in
set_option maxRecDepth 1000000 in
set_option maxHeartbeats 16000000 in
theorem nr30 {w w2 : World} {j : Value} {J : List UInt8} {Q : Exit → Act → World → Prop} {a : Act} (hF : Fr a [(16, .bool true), (33, .bool true), (44, .bool true), (52, .int .i64 0), (55, .int .i64 5), (57, j), (60, .int .i64 0)]) (HS : St w w2 [(j, J)] []) (hp : Pag.putB J [9] (Pag.zs 568) = (5, []))
    (h : ∀ (a' : Act) (w' : World), Fr a' [(16, .bool true), (33, .bool true), (44, .bool true), (52, .int .i64 0), (55, .int .i64 5), (57, j), (60, .int .i64 0), (62, .int .i64 5)] → St w w' [(j, J)] [] → Q .normal a' w') : (cL (pn 30)).wp Try.prog Q a w2 := by
  conv => arg 2; whnf
  obtain ⟨f, rfl, ⟨s16, s33, s44, s52, s55, s57, s60, _⟩, hfr⟩ := hF.open
  rw [hfr] at s16 s33 s44 s52 s55 s57 s60
  rw [s16, s33, s44, s52, s55, s57, s60]
  clear hF hfr s16 s33 s44 s52 s55 s57 s60
  have H := hide h
  clear h
  have HL := hide (lit_bd (w := w2) 9 (0, 0) (n := 9) rfl)
  have HS3 := HS.alloc (.cells #[.int .u8 9] 5 (0, 0))
  go_wp2_with (at_make; refine wpList_zs 568 (by omega) rfl _ _ rfl rfl rfl rfl rfl ?_; intro v3 w3 hv3 hb3; have HV := hide hv3; have HL3 := hide (bd_below HL.out hb3); replace HS3 := HS3.below hb3; clear hv3 hb3 HS HL)
  with_reducible refine (put_bd (HS3.rd j J (by simp)) HL3.out HV.out (m := 5) hp rfl).mono ?_
  rintro e w5 ⟨r, rfl, hr, hb⟩
  have HS5 := HS3.below hb
  clear hr hb HS3
  go_wp2_with fail
  exact H.out _ _ ⟨rfl, rfl, rfl, rfl, rfl, rfl, rfl, rfl, rfl, rfl, trivial⟩ HS5
set_option linter.unusedVariables false in
set_option maxRecDepth 1000000 in
set_option maxHeartbeats 16000000 in
theorem nr31 {w w2 : World} {j : Value} {J : List UInt8} {Q : Exit → Act → World → Prop} {a : Act} (hF : Fr a [(16, .bool true), (33, .bool true), (44, .bool true), (52, .int .i64 0), (55, .int .i64 5), (57, j), (60, .int .i64 0), (62, .int .i64 5)]) (HS : St w w2 [(j, J)] [])
    (h : ∀ (a' : Act) (w' : World), Fr a' [(16, .bool true), (33, .bool true), (44, .bool true), (52, .int .i64 0), (55, .int .i64 5)] → Below w.heap.size w w' → Q .normal a' w') : (cL (pn 31)).wp Try.prog Q a w2 := by
  conv => arg 2; whnf
  obtain ⟨f, rfl, ⟨s16, s33, s44, s52, s55, s57, s60, s62, _⟩, hfr⟩ := hF.open
  rw [hfr] at s16 s33 s44 s52 s55 s57 s60 s62
  rw [s16, s33, s44, s52, s55, s57, s60, s62]
  clear hF hfr s16 s33 s44 s52 s55 s57 s60 s62
  have H := hide h
  clear h
  go_wp2_with fail
  exact H.out _ _ ⟨rfl, rfl, rfl, rfl, rfl, rfl, rfl, trivial⟩ HS.bel

set_option linter.unusedVariables false in
set_option maxRecDepth 1000000 in
set_option maxHeartbeats 16000000 in
theorem nr32 {w w2 : World}  {Q : Exit → Act → World → Prop} {a : Act} (hF : Fr a [(16, .bool true), (33, .bool true), (44, .bool true), (52, .int .i64 0), (55, .int .i64 5)]) (HS : Below w.heap.size w w2)
    (h : ∀ (a' : Act) (w' : World), Fr a' [(0, .bool true)] → Below w.heap.size w w' → Q .normal a' w') : (cL (pn 32)).wp Try.prog Q a w2 := by
  conv => arg 2; whnf
  obtain ⟨f, rfl, ⟨s16, s33, s44, s52, s55, _⟩, hfr⟩ := hF.open
  rw [hfr] at s16 s33 s44 s52 s55
  rw [s16, s33, s44, s52, s55]
  clear hF hfr s16 s33 s44 s52 s55
  have H := hide h
  clear h
  have HB := hide HS
  clear HS
  go_wp2_with fail
  with_reducible refine (awake_any _).mono ?_
  rintro e w3 ⟨rfl, hb3⟩
  have HB3 := hide (HB.out.trans (hb3.mono HB.out.size))
  clear hb3
  go_wp2_with fail
  exact H.out _ _ ⟨rfl, rfl, rfl, trivial⟩ HB3.out

end Go.Proofs.Ytpoilndlfbmhgaa
