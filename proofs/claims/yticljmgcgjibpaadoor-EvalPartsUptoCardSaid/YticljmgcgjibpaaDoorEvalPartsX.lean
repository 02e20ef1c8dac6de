/-
  The walk of the law EvalParts, the rest: it returns true. Conditions: the tables are laid; what is handed in reads as a tree, and as rows, of which there are not too many.
-/
import Derived.Test.YticljmgcgjibpaaDoorEvalPartsW
namespace Go.Proofs.YticljmgcgjibpaaDoor
open Go.RowKit

section
variable {d : Nat} {eh : Ev.Hd} {A : Option Addr} {m c : Nat} {ks : List Ev.Ex} {Aa Ab A7 A8 : Option Addr} {na ca nb cb n7 c7 n8 c8 ge gt : Nat} {ra rb : List (List Cell.Val)} {w w0 : World}
noncomputable def ptL : Code := cO (cB (cR (cL (pt 3))))
noncomputable def pb : Nat → Code
  | 0 => cB (cL (cR (cR ptL)))
  | n + 1 => cR (pb n)
set_option linter.unusedVariables false in
set_option maxRecDepth 1000000 in
set_option maxHeartbeats 4000000 in
theorem pb_a {Q : Exit → Act → World → Prop} {a : Act} (Y : Code) {i : Nat} (hi : i < 3) (hF : Fr 141 a [(1, .slice Aa na ca), (2, .slice Ab nb cb), (3, .pointer (some ⟨ge, 0, none⟩)), (7, .slice A7 n7 c7), (8, .slice A8 n8 c8), (33, .slice (some ⟨gt, 0, none⟩) 3 3), (34, .int .i64 3), (35, .int .i64 (i : Int))]) (hS : PtS w w0 ge gt eh A m c A7 n7 ra rb A8 n8) (C : PtC w d eh A m c ks Aa na ra Ab nb rb)
    (h : ∀ a' w' (ob : UInt8) gf gk, (ob = 17 ∨ ob = 19 ∨ ob = 20) → Fr 141 a' [(1, .slice Aa na ca), (2, .slice Ab nb cb), (3, .pointer (some ⟨ge, 0, none⟩)), (7, .slice A7 n7 c7), (8, .slice A8 n8 c8), (33, .slice (some ⟨gt, 0, none⟩) 3 3), (34, .int .i64 3), (35, .int .i64 (i : Int)), (10, .int .u8 (ob.toNat : Int)), (11, .pointer (some ⟨gf, 0, none⟩))] → PtS w w' ge gt eh A m c A7 n7 ra rb A8 n8 → Blk w' gf 28 #[.int .u8 (ob.toNat : Int), .int .u8 0, .int .i64 0, .string ⟨#[]⟩, .string ⟨#[]⟩, .string ⟨#[]⟩, .int .i64 0, .slice (some ⟨gk, 0, none⟩) 1 1] → ExK w' (· < w'.heap.size) (d + 1) (some ⟨gk, 0, none⟩) 1 [.mk eh ks] → Y.wp Tryd.prog Q a' w') : (Code.seq (cL (pb 0)) (Code.seq (cL (pb 1)) Y)).wp Tryd.prog Q a w0 := by
  conv => arg 2; arg 1; whnf
  conv => arg 2; arg 2; arg 1; whnf
  obtain ⟨f, rfl, ⟨s1, s2, s3, s7, s8, s33, s34, s35, _⟩, hfr⟩ := hF.open141
  rw [hfr] at s1 s2 s3 s7 s8 s33 s34 s35
  rw [s1, s2, s3, s7, s8, s33, s34, s35]
  clear hF hfr s1 s2 s3 s7 s8 s33 s34 s35
  have H := hide h
  have HS := hide hS
  replace C := hide C
  clear h hS
  have x0 := HS.out.e.cell 0
  have x1 := HS.out.e.cell 1
  have x2 := HS.out.e.cell 2
  have x3 := HS.out.e.cell 3
  have x4 := HS.out.e.cell 4
  have x5 := HS.out.e.cell 5
  have x6 := HS.out.e.cell 6
  have x7 := HS.out.e.cell 7
  simp at x0 x1 x2 x3 x4 x5 x6 x7
  obtain ⟨ob, ho, hq⟩ : ∃ ob : UInt8, (ob = 17 ∨ ob = 19 ∨ ob = 20) ∧ w0.cell? ⟨gt, i, none⟩ = some (.int .u8 (ob.toNat : Int)) := by
    have := HS.out.t.cell i
    match i, hi with
    | 0, _ => exact ⟨17, .inl rfl, this⟩
    | 1, _ => exact ⟨19, .inr (.inl rfl), this⟩
    | 2, _ => exact ⟨20, .inr (.inr rfl), this⟩
  have HO := hide ho
  clear ho
  obtain ⟨w1, hw1⟩ : ∃ x, x = w0.alloc (.cells #[.int .u8 (eh.o.toNat : Int), .int .u8 (eh.v.k.toNat : Int), .int .i64 eh.v.n, .string eh.v.s, .string eh.nm, .string eh.of, .int .i64 eh.n, .slice A m c] 28) := ⟨_, rfl⟩
  have HK : Hid (Blk w1 w0.heap.size 28 #[.int .u8 (eh.o.toNat : Int), .int .u8 (eh.v.k.toNat : Int), .int .i64 eh.v.n, .string eh.v.s, .string eh.nm, .string eh.of, .int .i64 eh.n, .slice A m c]) := by rw [hw1]; exact Blk.new _ _ _
  have hb : Below w0.heap.size w0 w1 := by rw [hw1]; exact al _ _
  replace HS := hide (HS.out.below hb)
  clear hb
  have hs1 : w1.heap.size = w0.heap.size + 1 := by rw [hw1]; simp
  obtain ⟨gk, hgk⟩ : ∃ g, g = w0.heap.size := ⟨_, rfl⟩
  rw [← hgk] at HK hs1
  obtain ⟨w2, hw2⟩ : ∃ x, x = w1.alloc (.cells #[.int .u8 (ob.toNat : Int), .int .u8 0, .int .i64 0, .string ⟨#[]⟩, .string ⟨#[]⟩, .string ⟨#[]⟩, .int .i64 0, .slice (some ⟨gk, 0, none⟩) 1 1] 28) := ⟨_, rfl⟩
  have HFb : Hid (Blk w2 w1.heap.size 28 #[.int .u8 (ob.toNat : Int), .int .u8 0, .int .i64 0, .string ⟨#[]⟩, .string ⟨#[]⟩, .string ⟨#[]⟩, .int .i64 0, .slice (some ⟨gk, 0, none⟩) 1 1]) := by rw [hw2]; exact Blk.new _ _ _
  have hb : Below w1.heap.size w1 w2 := by rw [hw2]; exact al _ _
  replace HS := hide (HS.out.below hb)
  replace HK := hide (HK.out.below hb HK.out.lt)
  clear hb
  have HEx : Hid (ExK w2 (· < w2.heap.size) (d + 1) (some ⟨gk, 0, none⟩) 1 [.mk eh ks]) := ex_row [⟨eh, A, m, c, ks⟩] HK.out HK.out.lt (by show 1 * 104 ≤ _; decide) (fun x hx => by
    simp only [List.mem_cons, List.not_mem_nil, or_false] at hx
    subst hx
    exact ⟨C.out.ok, C.out.mc, C.out.c2, C.out.ex.next HS.out.bel⟩)
  rw [hs1] at HFb
  go_wp2_with fail
  rw [← hw1, ← hgk, ← hw2]
  refine H.out _ _ ob _ gk HO.out ?_ HS.out HFb.out HEx.out
  exact ⟨rfl, rfl, rfl, rfl, rfl, rfl, rfl, rfl, rfl, rfl, rfl, rfl, trivial⟩
set_option linter.unusedVariables false in
set_option maxRecDepth 1000000 in
set_option maxHeartbeats 4000000 in
theorem pb_f1 {Q : Exit → Act → World → Prop} {a : Act} {i : Nat} {ob : UInt8} {gf gk : Nat}  (hF : Fr 141 a [(1, .slice Aa na ca), (2, .slice Ab nb cb), (3, .pointer (some ⟨ge, 0, none⟩)), (7, .slice A7 n7 c7), (8, .slice A8 n8 c8), (33, .slice (some ⟨gt, 0, none⟩) 3 3), (34, .int .i64 3), (35, .int .i64 (i : Int)), (10, .int .u8 (ob.toNat : Int)), (11, .pointer (some ⟨gf, 0, none⟩))]) (hS : PtS w w0 ge gt eh A m c A7 n7 ra rb A8 n8) (hA : Aw w w0 []) (C : PtC w d eh A m c ks Aa na ra Ab nb rb) (hf : Blk w0 gf 28 #[.int .u8 (ob.toNat : Int), .int .u8 0, .int .i64 0, .string ⟨#[]⟩, .string ⟨#[]⟩, .string ⟨#[]⟩, .int .i64 0, .slice (some ⟨gk, 0, none⟩) 1 1]) (hex : ExK w0 (· < w0.heap.size) (d + 1) (some ⟨gk, 0, none⟩) 1 [.mk eh ks])
    (h : ∀ a' w' g1 e1 k1 n1 s1, (⟨⟨k1, n1, s1⟩, e1⟩ : Cell.Val × Nat) = Ev.fold (Ev.hd ob) [.mk eh ks] ra Ev.rR → Fr 141 a' [(1, .slice Aa na ca), (2, .slice Ab nb cb), (3, .pointer (some ⟨ge, 0, none⟩)), (7, .slice A7 n7 c7), (8, .slice A8 n8 c8), (33, .slice (some ⟨gt, 0, none⟩) 3 3), (34, .int .i64 3), (35, .int .i64 (i : Int)), (10, .int .u8 (ob.toNat : Int)), (11, .pointer (some ⟨gf, 0, none⟩)), (12, .pointer (some ⟨g1, 0, none⟩)), (13, .int .i64 (e1 : Int))] → PtS w w' ge gt eh A m c A7 n7 ra rb A8 n8 → Aw w w' [(g1, #[.int .u8 (k1.toNat : Int), .int .i64 n1, .string s1])] → Blk w' gf 28 #[.int .u8 (ob.toNat : Int), .int .u8 0, .int .i64 0, .string ⟨#[]⟩, .string ⟨#[]⟩, .string ⟨#[]⟩, .int .i64 0, .slice (some ⟨gk, 0, none⟩) 1 1] → ExK w' (· < w'.heap.size) (d + 1) (some ⟨gk, 0, none⟩) 1 [.mk eh ks] → Q .normal a' w') : (cL (pb 2)).wp Tryd.prog Q a w0 := by
  conv => arg 2; whnf
  obtain ⟨f, rfl, ⟨s1, s2, s3, s7, s8, s33, s34, s35, s10, s11, _⟩, hfr⟩ := hF.open141
  rw [hfr] at s1 s2 s3 s7 s8 s33 s34 s35 s10 s11
  rw [s1, s2, s3, s7, s8, s33, s34, s35, s10, s11]
  clear hF hfr s1 s2 s3 s7 s8 s33 s34 s35 s10 s11
  have H := hide h
  have HS := hide hS
  have HA := hide hA
  have HF := hide hf
  have HEx := hide hex
  replace C := hide C
  clear h hS hA hf hex
  have l0 := HF.out.cell 0
  have l1 := HF.out.cell 1
  have l2 := HF.out.cell 2
  have l3 := HF.out.cell 3
  have l4 := HF.out.cell 4
  have l5 := HF.out.cell 5
  have l6 := HF.out.cell 6
  have l7 := HF.out.cell 7
  simp at l0 l1 l2 l3 l4 l5 l6 l7
  obtain ⟨⟨⟨k1, n1, s1⟩, e1⟩, hp⟩ : ∃ p, p = Ev.fold (Ev.hd ob) [.mk eh ks] ra Ev.rR := ⟨_, rfl⟩
  have HP := hide hp
  clear hp
  go_wp2_with fail
  have cc : Calls Tryd.prog 11 #[.agg #[.int .u8 (ob.toNat : Int), .int .u8 0, .int .i64 0, .string ⟨#[]⟩, .string ⟨#[]⟩, .string ⟨#[]⟩, .int .i64 0, .slice (some ⟨gk, 0, none⟩) 1 1], .slice Aa na ca, .string ⟨#[114]⟩] w0 fun e w' => e = .returned (.tuple #[.agg #[.int .u8 (k1.toNat : Int), .int .i64 n1, .string s1], .int .i64 (e1 : Int)]) ∧ Below w0.heap.size w0 w' := by
    have := fold_any (d + 1) (Ev.hd ob) [.mk eh ks] (some ⟨gk, 0, none⟩) 1 1 Aa na ca ra Ev.rR w0 HEx.out (hdOk_mk vOk_vz (by decide) (by decide)) (by decide) (by decide) (C.out.ra.next HS.out.bel) (by decide) (C.out.env.next HS.out.bel)
    rw [← HP.out] at this
    exact this
  with_reducible refine cc.mono ?_
  clear cc l0 l1 l2 l3 l4 l5 l6 l7
  rintro e w1 ⟨rfl, hb⟩
  replace HS := hide (HS.out.below hb)
  replace HA := hide (HA.out.below hb)
  replace HF := hide (HF.out.below hb HF.out.lt)
  replace HEx := hide (HEx.out.next hb)
  clear hb
  obtain ⟨w2, hw2⟩ : ∃ x, x = w1.alloc (.cells #[.int .u8 (k1.toNat : Int), .int .i64 n1, .string s1] 24) := ⟨_, rfl⟩
  have HV : Hid (Blk w2 w1.heap.size 24 #[.int .u8 (k1.toNat : Int), .int .i64 n1, .string s1]) := by rw [hw2]; exact Blk.new _ _ _
  have hb : Below w1.heap.size w1 w2 := by rw [hw2]; exact al _ _
  replace HS := hide (HS.out.below hb)
  replace HA := hide (HA.out.below hb)
  replace HF := hide (HF.out.below hb HF.out.lt)
  replace HEx := hide (HEx.out.next hb)
  clear hb
  go_wp2_with fail
  rw [← hw2]
  refine H.out _ _ _ e1 k1 n1 s1 HP.out ?_ HS.out (HA.out.cons HV.out) HF.out HEx.out
  exact ⟨rfl, rfl, rfl, rfl, rfl, rfl, rfl, rfl, rfl, rfl, rfl, rfl, rfl, rfl, trivial⟩
set_option linter.unusedVariables false in
set_option maxRecDepth 1000000 in
set_option maxHeartbeats 4000000 in
theorem pb_f2 {Q : Exit → Act → World → Prop} {a : Act} {i : Nat} {ob : UInt8} {gf gk : Nat} {g1 e1 : Nat} {k1 : UInt8} {n1 : Int} {s1 : ByteArray} (hF : Fr 141 a [(1, .slice Aa na ca), (2, .slice Ab nb cb), (3, .pointer (some ⟨ge, 0, none⟩)), (7, .slice A7 n7 c7), (8, .slice A8 n8 c8), (33, .slice (some ⟨gt, 0, none⟩) 3 3), (34, .int .i64 3), (35, .int .i64 (i : Int)), (10, .int .u8 (ob.toNat : Int)), (11, .pointer (some ⟨gf, 0, none⟩)), (12, .pointer (some ⟨g1, 0, none⟩)), (13, .int .i64 (e1 : Int))]) (hS : PtS w w0 ge gt eh A m c A7 n7 ra rb A8 n8) (hA : Aw w w0 [(g1, #[.int .u8 (k1.toNat : Int), .int .i64 n1, .string s1])]) (C : PtC w d eh A m c ks Aa na ra Ab nb rb) (hf : Blk w0 gf 28 #[.int .u8 (ob.toNat : Int), .int .u8 0, .int .i64 0, .string ⟨#[]⟩, .string ⟨#[]⟩, .string ⟨#[]⟩, .int .i64 0, .slice (some ⟨gk, 0, none⟩) 1 1]) (hex : ExK w0 (· < w0.heap.size) (d + 1) (some ⟨gk, 0, none⟩) 1 [.mk eh ks])
    (h : ∀ a' w' g2 e2 k2 n2 s2, (⟨⟨k2, n2, s2⟩, e2⟩ : Cell.Val × Nat) = Ev.fold (Ev.hd ob) [.mk eh ks] rb Ev.rR → Fr 141 a' [(1, .slice Aa na ca), (2, .slice Ab nb cb), (3, .pointer (some ⟨ge, 0, none⟩)), (7, .slice A7 n7 c7), (8, .slice A8 n8 c8), (33, .slice (some ⟨gt, 0, none⟩) 3 3), (34, .int .i64 3), (35, .int .i64 (i : Int)), (10, .int .u8 (ob.toNat : Int)), (11, .pointer (some ⟨gf, 0, none⟩)), (12, .pointer (some ⟨g1, 0, none⟩)), (13, .int .i64 (e1 : Int)), (14, .pointer (some ⟨g2, 0, none⟩)), (15, .int .i64 (e2 : Int))] → PtS w w' ge gt eh A m c A7 n7 ra rb A8 n8 → Aw w w' [(g2, #[.int .u8 (k2.toNat : Int), .int .i64 n2, .string s2]), (g1, #[.int .u8 (k1.toNat : Int), .int .i64 n1, .string s1])] → Blk w' gf 28 #[.int .u8 (ob.toNat : Int), .int .u8 0, .int .i64 0, .string ⟨#[]⟩, .string ⟨#[]⟩, .string ⟨#[]⟩, .int .i64 0, .slice (some ⟨gk, 0, none⟩) 1 1] → ExK w' (· < w'.heap.size) (d + 1) (some ⟨gk, 0, none⟩) 1 [.mk eh ks] → Q .normal a' w') : (cL (pb 3)).wp Tryd.prog Q a w0 := by
  conv => arg 2; whnf
  obtain ⟨f, rfl, ⟨s1, s2, s3, s7, s8, s33, s34, s35, s10, s11, s12, s13, _⟩, hfr⟩ := hF.open141
  rw [hfr] at s1 s2 s3 s7 s8 s33 s34 s35 s10 s11 s12 s13
  rw [s1, s2, s3, s7, s8, s33, s34, s35, s10, s11, s12, s13]
  clear hF hfr s1 s2 s3 s7 s8 s33 s34 s35 s10 s11 s12 s13
  have H := hide h
  have HS := hide hS
  have HA := hide hA
  have HF := hide hf
  have HEx := hide hex
  replace C := hide C
  clear h hS hA hf hex
  have l0 := HF.out.cell 0
  have l1 := HF.out.cell 1
  have l2 := HF.out.cell 2
  have l3 := HF.out.cell 3
  have l4 := HF.out.cell 4
  have l5 := HF.out.cell 5
  have l6 := HF.out.cell 6
  have l7 := HF.out.cell 7
  simp at l0 l1 l2 l3 l4 l5 l6 l7
  obtain ⟨⟨⟨k2, n2, s2⟩, e2⟩, hp⟩ : ∃ p, p = Ev.fold (Ev.hd ob) [.mk eh ks] rb Ev.rR := ⟨_, rfl⟩
  have HP := hide hp
  clear hp
  go_wp2_with fail
  have cc : Calls Tryd.prog 11 #[.agg #[.int .u8 (ob.toNat : Int), .int .u8 0, .int .i64 0, .string ⟨#[]⟩, .string ⟨#[]⟩, .string ⟨#[]⟩, .int .i64 0, .slice (some ⟨gk, 0, none⟩) 1 1], .slice Ab nb cb, .string ⟨#[114]⟩] w0 fun e w' => e = .returned (.tuple #[.agg #[.int .u8 (k2.toNat : Int), .int .i64 n2, .string s2], .int .i64 (e2 : Int)]) ∧ Below w0.heap.size w0 w' := by
    have := fold_any (d + 1) (Ev.hd ob) [.mk eh ks] (some ⟨gk, 0, none⟩) 1 1 Ab nb cb rb Ev.rR w0 HEx.out (hdOk_mk vOk_vz (by decide) (by decide)) (by decide) (by decide) (C.out.rb.next HS.out.bel) (by decide) (C.out.env.next HS.out.bel)
    rw [← HP.out] at this
    exact this
  with_reducible refine cc.mono ?_
  clear cc l0 l1 l2 l3 l4 l5 l6 l7
  rintro e w1 ⟨rfl, hb⟩
  replace HS := hide (HS.out.below hb)
  replace HA := hide (HA.out.below hb)
  replace HF := hide (HF.out.below hb HF.out.lt)
  replace HEx := hide (HEx.out.next hb)
  clear hb
  obtain ⟨w2, hw2⟩ : ∃ x, x = w1.alloc (.cells #[.int .u8 (k2.toNat : Int), .int .i64 n2, .string s2] 24) := ⟨_, rfl⟩
  have HV : Hid (Blk w2 w1.heap.size 24 #[.int .u8 (k2.toNat : Int), .int .i64 n2, .string s2]) := by rw [hw2]; exact Blk.new _ _ _
  have hb : Below w1.heap.size w1 w2 := by rw [hw2]; exact al _ _
  replace HS := hide (HS.out.below hb)
  replace HA := hide (HA.out.below hb)
  replace HF := hide (HF.out.below hb HF.out.lt)
  replace HEx := hide (HEx.out.next hb)
  clear hb
  go_wp2_with fail
  rw [← hw2]
  refine H.out _ _ _ e2 k2 n2 s2 HP.out ?_ HS.out (HA.out.cons HV.out) HF.out HEx.out
  exact ⟨rfl, rfl, rfl, rfl, rfl, rfl, rfl, rfl, rfl, rfl, rfl, rfl, rfl, rfl, rfl, rfl, trivial⟩
set_option linter.unusedVariables false in
set_option maxRecDepth 1000000 in
set_option maxHeartbeats 4000000 in
theorem pb_f3 {Q : Exit → Act → World → Prop} {a : Act} {i : Nat} {ob : UInt8} {gf gk : Nat} {g1 e1 : Nat} {k1 : UInt8} {n1 : Int} {s1 : ByteArray} {g2 e2 : Nat} {k2 : UInt8} {n2 : Int} {s2 : ByteArray} (hF : Fr 141 a [(1, .slice Aa na ca), (2, .slice Ab nb cb), (3, .pointer (some ⟨ge, 0, none⟩)), (7, .slice A7 n7 c7), (8, .slice A8 n8 c8), (33, .slice (some ⟨gt, 0, none⟩) 3 3), (34, .int .i64 3), (35, .int .i64 (i : Int)), (10, .int .u8 (ob.toNat : Int)), (11, .pointer (some ⟨gf, 0, none⟩)), (12, .pointer (some ⟨g1, 0, none⟩)), (13, .int .i64 (e1 : Int)), (14, .pointer (some ⟨g2, 0, none⟩)), (15, .int .i64 (e2 : Int))]) (hS : PtS w w0 ge gt eh A m c A7 n7 ra rb A8 n8) (hA : Aw w w0 [(g2, #[.int .u8 (k2.toNat : Int), .int .i64 n2, .string s2]), (g1, #[.int .u8 (k1.toNat : Int), .int .i64 n1, .string s1])]) (C : PtC w d eh A m c ks Aa na ra Ab nb rb) (hf : Blk w0 gf 28 #[.int .u8 (ob.toNat : Int), .int .u8 0, .int .i64 0, .string ⟨#[]⟩, .string ⟨#[]⟩, .string ⟨#[]⟩, .int .i64 0, .slice (some ⟨gk, 0, none⟩) 1 1]) (hex : ExK w0 (· < w0.heap.size) (d + 1) (some ⟨gk, 0, none⟩) 1 [.mk eh ks])
    (h : ∀ a' w' g3 e3 k3 n3 s3, (⟨⟨k3, n3, s3⟩, e3⟩ : Cell.Val × Nat) = Ev.fold (Ev.hd ob) [.mk eh ks] (ra ++ rb) Ev.rR → Fr 141 a' [(1, .slice Aa na ca), (2, .slice Ab nb cb), (3, .pointer (some ⟨ge, 0, none⟩)), (7, .slice A7 n7 c7), (8, .slice A8 n8 c8), (33, .slice (some ⟨gt, 0, none⟩) 3 3), (34, .int .i64 3), (35, .int .i64 (i : Int)), (10, .int .u8 (ob.toNat : Int)), (11, .pointer (some ⟨gf, 0, none⟩)), (12, .pointer (some ⟨g1, 0, none⟩)), (13, .int .i64 (e1 : Int)), (14, .pointer (some ⟨g2, 0, none⟩)), (15, .int .i64 (e2 : Int)), (16, .pointer (some ⟨g3, 0, none⟩)), (17, .int .i64 (e3 : Int))] → PtS w w' ge gt eh A m c A7 n7 ra rb A8 n8 → Aw w w' [(g3, #[.int .u8 (k3.toNat : Int), .int .i64 n3, .string s3]), (g2, #[.int .u8 (k2.toNat : Int), .int .i64 n2, .string s2]), (g1, #[.int .u8 (k1.toNat : Int), .int .i64 n1, .string s1])] → Blk w' gf 28 #[.int .u8 (ob.toNat : Int), .int .u8 0, .int .i64 0, .string ⟨#[]⟩, .string ⟨#[]⟩, .string ⟨#[]⟩, .int .i64 0, .slice (some ⟨gk, 0, none⟩) 1 1] → ExK w' (· < w'.heap.size) (d + 1) (some ⟨gk, 0, none⟩) 1 [.mk eh ks] → Q .normal a' w') : (cL (pb 4)).wp Tryd.prog Q a w0 := by
  conv => arg 2; whnf
  obtain ⟨f, rfl, ⟨s1, s2, s3, s7, s8, s33, s34, s35, s10, s11, s12, s13, s14, s15, _⟩, hfr⟩ := hF.open141
  rw [hfr] at s1 s2 s3 s7 s8 s33 s34 s35 s10 s11 s12 s13 s14 s15
  rw [s1, s2, s3, s7, s8, s33, s34, s35, s10, s11, s12, s13, s14, s15]
  clear hF hfr s1 s2 s3 s7 s8 s33 s34 s35 s10 s11 s12 s13 s14 s15
  have H := hide h
  have HS := hide hS
  have HA := hide hA
  have HF := hide hf
  have HEx := hide hex
  replace C := hide C
  clear h hS hA hf hex
  have l0 := HF.out.cell 0
  have l1 := HF.out.cell 1
  have l2 := HF.out.cell 2
  have l3 := HF.out.cell 3
  have l4 := HF.out.cell 4
  have l5 := HF.out.cell 5
  have l6 := HF.out.cell 6
  have l7 := HF.out.cell 7
  simp at l0 l1 l2 l3 l4 l5 l6 l7
  obtain ⟨⟨⟨k3, n3, s3⟩, e3⟩, hp⟩ : ∃ p, p = Ev.fold (Ev.hd ob) [.mk eh ks] (ra ++ rb) Ev.rR := ⟨_, rfl⟩
  have HP := hide hp
  clear hp
  go_wp2_with fail
  have cc : Calls Tryd.prog 11 #[.agg #[.int .u8 (ob.toNat : Int), .int .u8 0, .int .i64 0, .string ⟨#[]⟩, .string ⟨#[]⟩, .string ⟨#[]⟩, .int .i64 0, .slice (some ⟨gk, 0, none⟩) 1 1], .slice A7 n7 c7, .string ⟨#[114]⟩] w0 fun e w' => e = .returned (.tuple #[.agg #[.int .u8 (k3.toNat : Int), .int .i64 n3, .string s3], .int .i64 (e3 : Int)]) ∧ Below w0.heap.size w0 w' := by
    have := fold_any (d + 1) (Ev.hd ob) [.mk eh ks] (some ⟨gk, 0, none⟩) 1 1 A7 n7 c7 (ra ++ rb) Ev.rR w0 HEx.out (hdOk_mk vOk_vz (by decide) (by decide)) (by decide) (by decide) HS.out.r7 (by decide) (C.out.env.next HS.out.bel)
    rw [← HP.out] at this
    exact this
  with_reducible refine cc.mono ?_
  clear cc l0 l1 l2 l3 l4 l5 l6 l7
  rintro e w1 ⟨rfl, hb⟩
  replace HS := hide (HS.out.below hb)
  replace HA := hide (HA.out.below hb)
  replace HF := hide (HF.out.below hb HF.out.lt)
  replace HEx := hide (HEx.out.next hb)
  clear hb
  obtain ⟨w2, hw2⟩ : ∃ x, x = w1.alloc (.cells #[.int .u8 (k3.toNat : Int), .int .i64 n3, .string s3] 24) := ⟨_, rfl⟩
  have HV : Hid (Blk w2 w1.heap.size 24 #[.int .u8 (k3.toNat : Int), .int .i64 n3, .string s3]) := by rw [hw2]; exact Blk.new _ _ _
  have hb : Below w1.heap.size w1 w2 := by rw [hw2]; exact al _ _
  replace HS := hide (HS.out.below hb)
  replace HA := hide (HA.out.below hb)
  replace HF := hide (HF.out.below hb HF.out.lt)
  replace HEx := hide (HEx.out.next hb)
  clear hb
  go_wp2_with fail
  rw [← hw2]
  refine H.out _ _ _ e3 k3 n3 s3 HP.out ?_ HS.out (HA.out.cons HV.out) HF.out HEx.out
  exact ⟨rfl, rfl, rfl, rfl, rfl, rfl, rfl, rfl, rfl, rfl, rfl, rfl, rfl, rfl, rfl, rfl, rfl, rfl, trivial⟩
set_option linter.unusedVariables false in
set_option maxRecDepth 1000000 in
set_option maxHeartbeats 4000000 in
theorem pb_f4 {Q : Exit → Act → World → Prop} {a : Act} {i : Nat} {ob : UInt8} {gf gk : Nat} {g1 e1 : Nat} {k1 : UInt8} {n1 : Int} {s1 : ByteArray} {g2 e2 : Nat} {k2 : UInt8} {n2 : Int} {s2 : ByteArray} {g3 e3 : Nat} {k3 : UInt8} {n3 : Int} {s3 : ByteArray} (hF : Fr 141 a [(1, .slice Aa na ca), (2, .slice Ab nb cb), (3, .pointer (some ⟨ge, 0, none⟩)), (7, .slice A7 n7 c7), (8, .slice A8 n8 c8), (33, .slice (some ⟨gt, 0, none⟩) 3 3), (34, .int .i64 3), (35, .int .i64 (i : Int)), (10, .int .u8 (ob.toNat : Int)), (11, .pointer (some ⟨gf, 0, none⟩)), (12, .pointer (some ⟨g1, 0, none⟩)), (13, .int .i64 (e1 : Int)), (14, .pointer (some ⟨g2, 0, none⟩)), (15, .int .i64 (e2 : Int)), (16, .pointer (some ⟨g3, 0, none⟩)), (17, .int .i64 (e3 : Int))]) (hS : PtS w w0 ge gt eh A m c A7 n7 ra rb A8 n8) (hA : Aw w w0 [(g3, #[.int .u8 (k3.toNat : Int), .int .i64 n3, .string s3]), (g2, #[.int .u8 (k2.toNat : Int), .int .i64 n2, .string s2]), (g1, #[.int .u8 (k1.toNat : Int), .int .i64 n1, .string s1])]) (C : PtC w d eh A m c ks Aa na ra Ab nb rb) (hf : Blk w0 gf 28 #[.int .u8 (ob.toNat : Int), .int .u8 0, .int .i64 0, .string ⟨#[]⟩, .string ⟨#[]⟩, .string ⟨#[]⟩, .int .i64 0, .slice (some ⟨gk, 0, none⟩) 1 1]) (hex : ExK w0 (· < w0.heap.size) (d + 1) (some ⟨gk, 0, none⟩) 1 [.mk eh ks])
    (h : ∀ a' w' g4 e4 k4 n4 s4, (⟨⟨k4, n4, s4⟩, e4⟩ : Cell.Val × Nat) = Ev.fold (Ev.hd ob) [.mk eh ks] (rb ++ ra) Ev.rR → Fr 141 a' [(1, .slice Aa na ca), (2, .slice Ab nb cb), (3, .pointer (some ⟨ge, 0, none⟩)), (7, .slice A7 n7 c7), (8, .slice A8 n8 c8), (33, .slice (some ⟨gt, 0, none⟩) 3 3), (34, .int .i64 3), (35, .int .i64 (i : Int)), (10, .int .u8 (ob.toNat : Int)), (11, .pointer (some ⟨gf, 0, none⟩)), (12, .pointer (some ⟨g1, 0, none⟩)), (13, .int .i64 (e1 : Int)), (14, .pointer (some ⟨g2, 0, none⟩)), (15, .int .i64 (e2 : Int)), (16, .pointer (some ⟨g3, 0, none⟩)), (17, .int .i64 (e3 : Int)), (18, .pointer (some ⟨g4, 0, none⟩)), (19, .int .i64 (e4 : Int))] → PtS w w' ge gt eh A m c A7 n7 ra rb A8 n8 → Aw w w' [(g4, #[.int .u8 (k4.toNat : Int), .int .i64 n4, .string s4]), (g3, #[.int .u8 (k3.toNat : Int), .int .i64 n3, .string s3]), (g2, #[.int .u8 (k2.toNat : Int), .int .i64 n2, .string s2]), (g1, #[.int .u8 (k1.toNat : Int), .int .i64 n1, .string s1])] → Blk w' gf 28 #[.int .u8 (ob.toNat : Int), .int .u8 0, .int .i64 0, .string ⟨#[]⟩, .string ⟨#[]⟩, .string ⟨#[]⟩, .int .i64 0, .slice (some ⟨gk, 0, none⟩) 1 1] → ExK w' (· < w'.heap.size) (d + 1) (some ⟨gk, 0, none⟩) 1 [.mk eh ks] → Q .normal a' w') : (cL (pb 5)).wp Tryd.prog Q a w0 := by
  conv => arg 2; whnf
  obtain ⟨f, rfl, ⟨s1, s2, s3, s7, s8, s33, s34, s35, s10, s11, s12, s13, s14, s15, s16, s17, _⟩, hfr⟩ := hF.open141
  rw [hfr] at s1 s2 s3 s7 s8 s33 s34 s35 s10 s11 s12 s13 s14 s15 s16 s17
  rw [s1, s2, s3, s7, s8, s33, s34, s35, s10, s11, s12, s13, s14, s15, s16, s17]
  clear hF hfr s1 s2 s3 s7 s8 s33 s34 s35 s10 s11 s12 s13 s14 s15 s16 s17
  have H := hide h
  have HS := hide hS
  have HA := hide hA
  have HF := hide hf
  have HEx := hide hex
  replace C := hide C
  clear h hS hA hf hex
  have l0 := HF.out.cell 0
  have l1 := HF.out.cell 1
  have l2 := HF.out.cell 2
  have l3 := HF.out.cell 3
  have l4 := HF.out.cell 4
  have l5 := HF.out.cell 5
  have l6 := HF.out.cell 6
  have l7 := HF.out.cell 7
  simp at l0 l1 l2 l3 l4 l5 l6 l7
  obtain ⟨⟨⟨k4, n4, s4⟩, e4⟩, hp⟩ : ∃ p, p = Ev.fold (Ev.hd ob) [.mk eh ks] (rb ++ ra) Ev.rR := ⟨_, rfl⟩
  have HP := hide hp
  clear hp
  go_wp2_with fail
  have cc : Calls Tryd.prog 11 #[.agg #[.int .u8 (ob.toNat : Int), .int .u8 0, .int .i64 0, .string ⟨#[]⟩, .string ⟨#[]⟩, .string ⟨#[]⟩, .int .i64 0, .slice (some ⟨gk, 0, none⟩) 1 1], .slice A8 n8 c8, .string ⟨#[114]⟩] w0 fun e w' => e = .returned (.tuple #[.agg #[.int .u8 (k4.toNat : Int), .int .i64 n4, .string s4], .int .i64 (e4 : Int)]) ∧ Below w0.heap.size w0 w' := by
    have := fold_any (d + 1) (Ev.hd ob) [.mk eh ks] (some ⟨gk, 0, none⟩) 1 1 A8 n8 c8 (rb ++ ra) Ev.rR w0 HEx.out (hdOk_mk vOk_vz (by decide) (by decide)) (by decide) (by decide) HS.out.r8 (by decide) (C.out.env.next HS.out.bel)
    rw [← HP.out] at this
    exact this
  with_reducible refine cc.mono ?_
  clear cc l0 l1 l2 l3 l4 l5 l6 l7
  rintro e w1 ⟨rfl, hb⟩
  replace HS := hide (HS.out.below hb)
  replace HA := hide (HA.out.below hb)
  replace HF := hide (HF.out.below hb HF.out.lt)
  replace HEx := hide (HEx.out.next hb)
  clear hb
  obtain ⟨w2, hw2⟩ : ∃ x, x = w1.alloc (.cells #[.int .u8 (k4.toNat : Int), .int .i64 n4, .string s4] 24) := ⟨_, rfl⟩
  have HV : Hid (Blk w2 w1.heap.size 24 #[.int .u8 (k4.toNat : Int), .int .i64 n4, .string s4]) := by rw [hw2]; exact Blk.new _ _ _
  have hb : Below w1.heap.size w1 w2 := by rw [hw2]; exact al _ _
  replace HS := hide (HS.out.below hb)
  replace HA := hide (HA.out.below hb)
  replace HF := hide (HF.out.below hb HF.out.lt)
  replace HEx := hide (HEx.out.next hb)
  clear hb
  go_wp2_with fail
  rw [← hw2]
  refine H.out _ _ _ e4 k4 n4 s4 HP.out ?_ HS.out (HA.out.cons HV.out) HF.out HEx.out
  exact ⟨rfl, rfl, rfl, rfl, rfl, rfl, rfl, rfl, rfl, rfl, rfl, rfl, rfl, rfl, rfl, rfl, rfl, rfl, rfl, rfl, trivial⟩
set_option linter.unusedVariables false in
set_option maxRecDepth 1000000 in
set_option maxHeartbeats 4000000 in
theorem pb_6 {Q : Exit → Act → World → Prop} {a : Act} {i : Nat} {ob : UInt8} {gf g1 g2 g3 g4 e1 e2 e3 e4 : Nat} (hF : Fr 141 a [(1, .slice Aa na ca), (2, .slice Ab nb cb), (3, .pointer (some ⟨ge, 0, none⟩)), (7, .slice A7 n7 c7), (8, .slice A8 n8 c8), (33, .slice (some ⟨gt, 0, none⟩) 3 3), (34, .int .i64 3), (35, .int .i64 (i : Int)), (10, .int .u8 (ob.toNat : Int)), (11, .pointer (some ⟨gf, 0, none⟩)), (12, .pointer (some ⟨g1, 0, none⟩)), (13, .int .i64 (e1 : Int)), (14, .pointer (some ⟨g2, 0, none⟩)), (15, .int .i64 (e2 : Int)), (16, .pointer (some ⟨g3, 0, none⟩)), (17, .int .i64 (e3 : Int)), (18, .pointer (some ⟨g4, 0, none⟩)), (19, .int .i64 (e4 : Int))]) (hbad : e1 ≠ 0 ∨ e2 ≠ 0 → e3 ≠ 0 ∧ e4 ≠ 0)
    (h0 : e1 ≠ 0 ∨ e2 ≠ 0 → ∀ a', Fr 141 a' [(1, .slice Aa na ca), (2, .slice Ab nb cb), (3, .pointer (some ⟨ge, 0, none⟩)), (7, .slice A7 n7 c7), (8, .slice A8 n8 c8), (33, .slice (some ⟨gt, 0, none⟩) 3 3), (34, .int .i64 3), (35, .int .i64 (i : Int))] → Q (.exit 1) a' w0) (h1 : e1 = 0 → e2 = 0 → ∀ a', Fr 141 a' [(1, .slice Aa na ca), (2, .slice Ab nb cb), (3, .pointer (some ⟨ge, 0, none⟩)), (7, .slice A7 n7 c7), (8, .slice A8 n8 c8), (33, .slice (some ⟨gt, 0, none⟩) 3 3), (34, .int .i64 3), (35, .int .i64 (i : Int)), (10, .int .u8 (ob.toNat : Int)), (11, .pointer (some ⟨gf, 0, none⟩)), (12, .pointer (some ⟨g1, 0, none⟩)), (13, .int .i64 (e1 : Int)), (14, .pointer (some ⟨g2, 0, none⟩)), (15, .int .i64 (e2 : Int)), (16, .pointer (some ⟨g3, 0, none⟩)), (17, .int .i64 (e3 : Int)), (18, .pointer (some ⟨g4, 0, none⟩)), (19, .int .i64 (e4 : Int))] → Q .normal a' w0) : (cL (pb 6)).wp Tryd.prog Q a w0 := by
  conv => arg 2; whnf
  obtain ⟨f, rfl, ⟨s1, s2, s3, s7, s8, s33, s34, s35, s10, s11, s12, s13, s14, s15, s16, s17, s18, s19, _⟩, hfr⟩ := hF.open141
  rw [hfr] at s1 s2 s3 s7 s8 s33 s34 s35 s10 s11 s12 s13 s14 s15 s16 s17 s18 s19
  rw [s1, s2, s3, s7, s8, s33, s34, s35, s10, s11, s12, s13, s14, s15, s16, s17, s18, s19]
  clear hF hfr s1 s2 s3 s7 s8 s33 s34 s35 s10 s11 s12 s13 s14 s15 s16 s17 s18 s19
  by_cases h : e1 ≠ 0 ∨ e2 ≠ 0
  · have H := hide (h0 h)
    obtain ⟨b3, b4⟩ := hbad h
    have u3 : ((e3 : Int) == 0) = false := by simp; omega
    have u4 : ((e4 : Int) == 0) = false := by simp; omega
    clear h0 h1 hbad
    by_cases hh : e1 = 0
    · subst hh
      have h2 : e2 ≠ 0 := by rcases h with h | h; exact absurd rfl h; exact h
      have t2 : ((e2 : Int) != 0) = true := by simp; omega
      clear h h2 b3 b4
      go_wp2_with fail
      refine H.out _ ?_
      exact ⟨rfl, rfl, rfl, rfl, rfl, rfl, rfl, rfl, rfl, rfl, trivial⟩
    · have t1 : ((e1 : Int) != 0) = true := by simp; omega
      clear h hh b3 b4
      go_wp2_with fail
      refine H.out _ ?_
      exact ⟨rfl, rfl, rfl, rfl, rfl, rfl, rfl, rfl, rfl, rfl, trivial⟩
  · obtain rfl : e1 = 0 := by omega
    obtain rfl : e2 = 0 := by omega
    have H := hide (h1 rfl rfl)
    clear h h0 h1 hbad
    go_wp2_with fail
    refine H.out _ ?_
    exact ⟨rfl, rfl, rfl, rfl, rfl, rfl, rfl, rfl, rfl, rfl, rfl, rfl, rfl, rfl, rfl, rfl, rfl, rfl, rfl, rfl, trivial⟩
set_option linter.unusedVariables false in
set_option maxRecDepth 1000000 in
set_option maxHeartbeats 4000000 in
theorem pb_7 {Q : Exit → Act → World → Prop} {a : Act} {i : Nat} {ob : UInt8} {gf : Nat} {g1 e1 : Nat} {k1 : UInt8} {n1 : Int} {s1 : ByteArray} {g2 e2 : Nat} {k2 : UInt8} {n2 : Int} {s2 : ByteArray} {g3 e3 : Nat} {k3 : UInt8} {n3 : Int} {s3 : ByteArray} {g4 e4 : Nat} {k4 : UInt8} {n4 : Int} {s4 : ByteArray} (hF : Fr 141 a [(1, .slice Aa na ca), (2, .slice Ab nb cb), (3, .pointer (some ⟨ge, 0, none⟩)), (7, .slice A7 n7 c7), (8, .slice A8 n8 c8), (33, .slice (some ⟨gt, 0, none⟩) 3 3), (34, .int .i64 3), (35, .int .i64 (i : Int)), (10, .int .u8 (ob.toNat : Int)), (11, .pointer (some ⟨gf, 0, none⟩)), (12, .pointer (some ⟨g1, 0, none⟩)), (13, .int .i64 (e1 : Int)), (14, .pointer (some ⟨g2, 0, none⟩)), (15, .int .i64 (e2 : Int)), (16, .pointer (some ⟨g3, 0, none⟩)), (17, .int .i64 (e3 : Int)), (18, .pointer (some ⟨g4, 0, none⟩)), (19, .int .i64 (e4 : Int))]) (hA : Aw w w0 [(g4, #[.int .u8 (k4.toNat : Int), .int .i64 n4, .string s4]), (g3, #[.int .u8 (k3.toNat : Int), .int .i64 n3, .string s3]), (g2, #[.int .u8 (k2.toNat : Int), .int .i64 n2, .string s2]), (g1, #[.int .u8 (k1.toNat : Int), .int .i64 n1, .string s1])]) (h3 : e3 = 0) (h4 : e4 = 0) (hz : (⟨k3, n3, s3⟩ : Cell.Val) = ⟨k4, n4, s4⟩)
    (h : ∀ a', Fr 141 a' [(1, .slice Aa na ca), (2, .slice Ab nb cb), (3, .pointer (some ⟨ge, 0, none⟩)), (7, .slice A7 n7 c7), (8, .slice A8 n8 c8), (33, .slice (some ⟨gt, 0, none⟩) 3 3), (34, .int .i64 3), (35, .int .i64 (i : Int)), (10, .int .u8 (ob.toNat : Int)), (11, .pointer (some ⟨gf, 0, none⟩)), (12, .pointer (some ⟨g1, 0, none⟩)), (13, .int .i64 (e1 : Int)), (14, .pointer (some ⟨g2, 0, none⟩)), (15, .int .i64 (e2 : Int)), (16, .pointer (some ⟨g3, 0, none⟩)), (17, .int .i64 (e3 : Int)), (18, .pointer (some ⟨g4, 0, none⟩)), (19, .int .i64 (e4 : Int))] → Q .normal a' w0) : (cL (pb 7)).wp Tryd.prog Q a w0 := by
  conv => arg 2; whnf
  obtain ⟨f, rfl, ⟨s1, s2, s3, s7, s8, s33, s34, s35, s10, s11, s12, s13, s14, s15, s16, s17, s18, s19, _⟩, hfr⟩ := hF.open141
  rw [hfr] at s1 s2 s3 s7 s8 s33 s34 s35 s10 s11 s12 s13 s14 s15 s16 s17 s18 s19
  rw [s1, s2, s3, s7, s8, s33, s34, s35, s10, s11, s12, s13, s14, s15, s16, s17, s18, s19]
  clear hF hfr s1 s2 s3 s7 s8 s33 s34 s35 s10 s11 s12 s13 s14 s15 s16 s17 s18 s19
  have H := hide h
  have HA := hide hA
  clear h hA
  injection hz with z1 z2 z3
  subst z1 z2 z3 h3 h4
  have HB3 := hide (HA.out.pg g3 #[.int .u8 (k3.toNat : Int), .int .i64 n3, .string s3] (by simp))
  have x0 := HB3.out.cell 0
  have x1 := HB3.out.cell 1
  have x2 := HB3.out.cell 2
  simp at x0 x1 x2
  have HB4 := hide (HA.out.pg g4 #[.int .u8 (k3.toNat : Int), .int .i64 n3, .string s3] (by simp))
  have y0 := HB4.out.cell 0
  have y1 := HB4.out.cell 1
  have y2 := HB4.out.cell 2
  simp at y0 y1 y2
  have q1 : ∀ w, (binOp .neq 24 (.agg #[.int .u8 (k3.toNat : Int), .int .i64 n3, .string s3]) (.agg #[.int .u8 (k3.toNat : Int), .int .i64 n3, .string s3])).run Tryd.prog w = .ok (.bool false) w := fun w => by
    rw [neqV w ⟨k3, n3, s3⟩ ⟨k3, n3, s3⟩, (vbeq_iff _ _).2 rfl]
    rfl
  have q2 := guardV
  go_wp2_with fail
  refine H.out _ ?_
  exact ⟨rfl, rfl, rfl, rfl, rfl, rfl, rfl, rfl, rfl, rfl, rfl, rfl, rfl, rfl, rfl, rfl, rfl, rfl, rfl, rfl, trivial⟩
set_option linter.unusedVariables false in
set_option maxRecDepth 1000000 in
set_option maxHeartbeats 4000000 in
theorem pb_8 {Q : Exit → Act → World → Prop} {a : Act} {i : Nat} {ob : UInt8} {gf : Nat} {g1 e1 : Nat} {k1 : UInt8} {n1 : Int} {s1 : ByteArray} {g2 e2 : Nat} {k2 : UInt8} {n2 : Int} {s2 : ByteArray} {g3 e3 : Nat} {k3 : UInt8} {n3 : Int} {s3 : ByteArray} {g4 e4 : Nat} {k4 : UInt8} {n4 : Int} {s4 : ByteArray} (hF : Fr 141 a [(1, .slice Aa na ca), (2, .slice Ab nb cb), (3, .pointer (some ⟨ge, 0, none⟩)), (7, .slice A7 n7 c7), (8, .slice A8 n8 c8), (33, .slice (some ⟨gt, 0, none⟩) 3 3), (34, .int .i64 3), (35, .int .i64 (i : Int)), (10, .int .u8 (ob.toNat : Int)), (11, .pointer (some ⟨gf, 0, none⟩)), (12, .pointer (some ⟨g1, 0, none⟩)), (13, .int .i64 (e1 : Int)), (14, .pointer (some ⟨g2, 0, none⟩)), (15, .int .i64 (e2 : Int)), (16, .pointer (some ⟨g3, 0, none⟩)), (17, .int .i64 (e3 : Int)), (18, .pointer (some ⟨g4, 0, none⟩)), (19, .int .i64 (e4 : Int))]) (hA : Aw w w0 [(g4, #[.int .u8 (k4.toNat : Int), .int .i64 n4, .string s4]), (g3, #[.int .u8 (k3.toNat : Int), .int .i64 n3, .string s3]), (g2, #[.int .u8 (k2.toNat : Int), .int .i64 n2, .string s2]), (g1, #[.int .u8 (k1.toNat : Int), .int .i64 n1, .string s1])])
    (h : ∀ a' w' go, Fr 141 a' [(1, .slice Aa na ca), (2, .slice Ab nb cb), (3, .pointer (some ⟨ge, 0, none⟩)), (7, .slice A7 n7 c7), (8, .slice A8 n8 c8), (33, .slice (some ⟨gt, 0, none⟩) 3 3), (34, .int .i64 3), (35, .int .i64 (i : Int)), (10, .int .u8 (ob.toNat : Int)), (11, .pointer (some ⟨gf, 0, none⟩)), (12, .pointer (some ⟨g1, 0, none⟩)), (13, .int .i64 (e1 : Int)), (14, .pointer (some ⟨g2, 0, none⟩)), (15, .int .i64 (e2 : Int)), (16, .pointer (some ⟨g3, 0, none⟩)), (17, .int .i64 (e3 : Int)), (18, .pointer (some ⟨g4, 0, none⟩)), (19, .int .i64 (e4 : Int)), (20, .pointer (some ⟨go, 0, none⟩))] → Below w0.heap.size w0 w' → Blk w' go 24 #[.int .u8 (k1.toNat : Int), .int .i64 n1, .string s1] → w0.heap.size ≤ go → Q .normal a' w') : (cL (pb 8)).wp Tryd.prog Q a w0 := by
  conv => arg 2; whnf
  obtain ⟨f, rfl, ⟨s1, s2, s3, s7, s8, s33, s34, s35, s10, s11, s12, s13, s14, s15, s16, s17, s18, s19, _⟩, hfr⟩ := hF.open141
  rw [hfr] at s1 s2 s3 s7 s8 s33 s34 s35 s10 s11 s12 s13 s14 s15 s16 s17 s18 s19
  rw [s1, s2, s3, s7, s8, s33, s34, s35, s10, s11, s12, s13, s14, s15, s16, s17, s18, s19]
  clear hF hfr s1 s2 s3 s7 s8 s33 s34 s35 s10 s11 s12 s13 s14 s15 s16 s17 s18 s19
  have H := hide h
  have HA := hide hA
  clear h hA
  have HB1 := hide (HA.out.pg g1 #[.int .u8 (k1.toNat : Int), .int .i64 n1, .string s1] (by simp))
  have x0 := HB1.out.cell 0
  have x1 := HB1.out.cell 1
  have x2 := HB1.out.cell 2
  simp at x0 x1 x2
  obtain ⟨w2, hw2⟩ : ∃ x, x = w0.alloc (.cells #[.int .u8 (k1.toNat : Int), .int .i64 n1, .string s1] 24) := ⟨_, rfl⟩
  have HV : Hid (Blk w2 w0.heap.size 24 #[.int .u8 (k1.toNat : Int), .int .i64 n1, .string s1]) := by rw [hw2]; exact Blk.new _ _ _
  have hb : Below w0.heap.size w0 w2 := by rw [hw2]; exact al _ _
  have HB := hide hb
  clear hb
  go_wp2_with fail
  rw [← hw2]
  refine H.out _ _ _ ?_ HB.out HV.out (Nat.le_refl _)
  exact ⟨rfl, rfl, rfl, rfl, rfl, rfl, rfl, rfl, rfl, rfl, rfl, rfl, rfl, rfl, rfl, rfl, rfl, rfl, rfl, rfl, rfl, trivial⟩
set_option linter.unusedVariables false in
set_option maxRecDepth 1000000 in
set_option maxHeartbeats 4000000 in
theorem pb_9c {Q : Exit → Act → World → Prop} {a : Act} {i : Nat} {ob : UInt8} {gf : Nat} {g1 e1 : Nat} {k1 : UInt8} {n1 : Int} {s1 : ByteArray} {g2 e2 : Nat} {k2 : UInt8} {n2 : Int} {s2 : ByteArray} {g3 e3 : Nat} {k3 : UInt8} {n3 : Int} {s3 : ByteArray} {g4 e4 : Nat} {k4 : UInt8} {n4 : Int} {s4 : ByteArray} {go : Nat} {w2 : World} {zk : UInt8} {zn : Int} {zs : ByteArray} (hF : Fr 141 a [(1, .slice Aa na ca), (2, .slice Ab nb cb), (3, .pointer (some ⟨ge, 0, none⟩)), (7, .slice A7 n7 c7), (8, .slice A8 n8 c8), (33, .slice (some ⟨gt, 0, none⟩) 3 3), (34, .int .i64 3), (35, .int .i64 (i : Int)), (10, .int .u8 (ob.toNat : Int)), (11, .pointer (some ⟨gf, 0, none⟩)), (12, .pointer (some ⟨g1, 0, none⟩)), (13, .int .i64 (e1 : Int)), (14, .pointer (some ⟨g2, 0, none⟩)), (15, .int .i64 (e2 : Int)), (16, .pointer (some ⟨g3, 0, none⟩)), (17, .int .i64 (e3 : Int)), (18, .pointer (some ⟨g4, 0, none⟩)), (19, .int .i64 (e4 : Int)), (20, .pointer (some ⟨go, 0, none⟩))]) (hA : Aw w w0 [(g4, #[.int .u8 (k4.toNat : Int), .int .i64 n4, .string s4]), (g3, #[.int .u8 (k3.toNat : Int), .int .i64 n3, .string s3]), (g2, #[.int .u8 (k2.toNat : Int), .int .i64 n2, .string s2]), (g1, #[.int .u8 (k1.toNat : Int), .int .i64 n1, .string s1])]) (hB : Below w0.heap.size w0 w2) (hO : Blk w2 go 24 #[.int .u8 (k1.toNat : Int), .int .i64 n1, .string s1]) (hgo : w0.heap.size ≤ go) (hz : (⟨zk, zn, zs⟩ : Cell.Val) = Ev.want ob ⟨k1, n1, s1⟩ ⟨k2, n2, s2⟩) (ho : ob = 17) (hr : -9223372036854775808 ≤ n1 + n2 ∧ n1 + n2 ≤ 9223372036854775807)
    (h : ∀ a' w', Fr 141 a' [(1, .slice Aa na ca), (2, .slice Ab nb cb), (3, .pointer (some ⟨ge, 0, none⟩)), (7, .slice A7 n7 c7), (8, .slice A8 n8 c8), (33, .slice (some ⟨gt, 0, none⟩) 3 3), (34, .int .i64 3), (35, .int .i64 (i : Int)), (10, .int .u8 (ob.toNat : Int)), (11, .pointer (some ⟨gf, 0, none⟩)), (12, .pointer (some ⟨g1, 0, none⟩)), (13, .int .i64 (e1 : Int)), (14, .pointer (some ⟨g2, 0, none⟩)), (15, .int .i64 (e2 : Int)), (16, .pointer (some ⟨g3, 0, none⟩)), (17, .int .i64 (e3 : Int)), (18, .pointer (some ⟨g4, 0, none⟩)), (19, .int .i64 (e4 : Int)), (20, .pointer (some ⟨go, 0, none⟩))] → Below w0.heap.size w0 w' → Blk w' go 24 #[.int .u8 (zk.toNat : Int), .int .i64 zn, .string zs] → Q .normal a' w') : (cL (pb 9)).wp Tryd.prog Q a w2 := by
  conv => arg 2; whnf
  obtain ⟨f, rfl, ⟨s1, s2, s3, s7, s8, s33, s34, s35, s10, s11, s12, s13, s14, s15, s16, s17, s18, s19, s20, _⟩, hfr⟩ := hF.open141
  rw [hfr] at s1 s2 s3 s7 s8 s33 s34 s35 s10 s11 s12 s13 s14 s15 s16 s17 s18 s19 s20
  rw [s1, s2, s3, s7, s8, s33, s34, s35, s10, s11, s12, s13, s14, s15, s16, s17, s18, s19, s20]
  clear hF hfr s1 s2 s3 s7 s8 s33 s34 s35 s10 s11 s12 s13 s14 s15 s16 s17 s18 s19 s20
  have H := hide h
  have HA := hide (hA.below hB)
  have HB := hide hB
  have HO := hide hO
  have HZ := hide hz
  clear h hA hB hO hz
  subst ho
  have hz : (⟨zk, zn, zs⟩ : Cell.Val) = ⟨k1, n1 + n2, s1⟩ := HZ.out
  injection hz with z1 z2 z3
  subst z1 z2 z3
  have tw : wrap64 (n1 + n2) = n1 + n2 := by unfold wrap64; omega
  have x0 := HO.out.cell 0
  have x1 := HO.out.cell 1
  have x2 := HO.out.cell 2
  simp at x0 x1 x2
  have f0 := HO.out.frozen 0
  have f1 := HO.out.frozen 1
  have f2 := HO.out.frozen 2
  have HB2 := hide (HA.out.pg g2 #[.int .u8 (k2.toNat : Int), .int .i64 n2, .string s2] (by simp))
  have y0 := HB2.out.cell 0
  have y1 := HB2.out.cell 1
  have y2 := HB2.out.cell 2
  simp at y0 y1 y2
  go_wp2_with fail
  refine H.out _ _ ?_ (HB.out.setCell hgo _) (HO.out.put 1 _)
  exact ⟨rfl, rfl, rfl, rfl, rfl, rfl, rfl, rfl, rfl, rfl, rfl, rfl, rfl, rfl, rfl, rfl, rfl, rfl, rfl, rfl, rfl, trivial⟩
set_option linter.unusedVariables false in
set_option maxRecDepth 1000000 in
set_option maxHeartbeats 4000000 in
theorem pb_9n {Q : Exit → Act → World → Prop} {a : Act} {i : Nat} {ob : UInt8} {gf : Nat} {g1 e1 : Nat} {k1 : UInt8} {n1 : Int} {s1 : ByteArray} {g2 e2 : Nat} {k2 : UInt8} {n2 : Int} {s2 : ByteArray} {g3 e3 : Nat} {k3 : UInt8} {n3 : Int} {s3 : ByteArray} {g4 e4 : Nat} {k4 : UInt8} {n4 : Int} {s4 : ByteArray} {go : Nat} {w2 : World} {zk : UInt8} {zn : Int} {zs : ByteArray} (hF : Fr 141 a [(1, .slice Aa na ca), (2, .slice Ab nb cb), (3, .pointer (some ⟨ge, 0, none⟩)), (7, .slice A7 n7 c7), (8, .slice A8 n8 c8), (33, .slice (some ⟨gt, 0, none⟩) 3 3), (34, .int .i64 3), (35, .int .i64 (i : Int)), (10, .int .u8 (ob.toNat : Int)), (11, .pointer (some ⟨gf, 0, none⟩)), (12, .pointer (some ⟨g1, 0, none⟩)), (13, .int .i64 (e1 : Int)), (14, .pointer (some ⟨g2, 0, none⟩)), (15, .int .i64 (e2 : Int)), (16, .pointer (some ⟨g3, 0, none⟩)), (17, .int .i64 (e3 : Int)), (18, .pointer (some ⟨g4, 0, none⟩)), (19, .int .i64 (e4 : Int)), (20, .pointer (some ⟨go, 0, none⟩))]) (hA : Aw w w0 [(g4, #[.int .u8 (k4.toNat : Int), .int .i64 n4, .string s4]), (g3, #[.int .u8 (k3.toNat : Int), .int .i64 n3, .string s3]), (g2, #[.int .u8 (k2.toNat : Int), .int .i64 n2, .string s2]), (g1, #[.int .u8 (k1.toNat : Int), .int .i64 n1, .string s1])]) (hB : Below w0.heap.size w0 w2) (hO : Blk w2 go 24 #[.int .u8 (k1.toNat : Int), .int .i64 n1, .string s1]) (hgo : w0.heap.size ≤ go) (hz : (⟨zk, zn, zs⟩ : Cell.Val) = Ev.want ob ⟨k1, n1, s1⟩ ⟨k2, n2, s2⟩) (ho : ob = 19)
    (h : ∀ a' w', Fr 141 a' [(1, .slice Aa na ca), (2, .slice Ab nb cb), (3, .pointer (some ⟨ge, 0, none⟩)), (7, .slice A7 n7 c7), (8, .slice A8 n8 c8), (33, .slice (some ⟨gt, 0, none⟩) 3 3), (34, .int .i64 3), (35, .int .i64 (i : Int)), (10, .int .u8 (ob.toNat : Int)), (11, .pointer (some ⟨gf, 0, none⟩)), (12, .pointer (some ⟨g1, 0, none⟩)), (13, .int .i64 (e1 : Int)), (14, .pointer (some ⟨g2, 0, none⟩)), (15, .int .i64 (e2 : Int)), (16, .pointer (some ⟨g3, 0, none⟩)), (17, .int .i64 (e3 : Int)), (18, .pointer (some ⟨g4, 0, none⟩)), (19, .int .i64 (e4 : Int)), (20, .pointer (some ⟨go, 0, none⟩))] → Below w0.heap.size w0 w' → Blk w' go 24 #[.int .u8 (zk.toNat : Int), .int .i64 zn, .string zs] → Q .normal a' w') : (cL (pb 9)).wp Tryd.prog Q a w2 := by
  conv => arg 2; whnf
  obtain ⟨f, rfl, ⟨s1, s2, s3, s7, s8, s33, s34, s35, s10, s11, s12, s13, s14, s15, s16, s17, s18, s19, s20, _⟩, hfr⟩ := hF.open141
  rw [hfr] at s1 s2 s3 s7 s8 s33 s34 s35 s10 s11 s12 s13 s14 s15 s16 s17 s18 s19 s20
  rw [s1, s2, s3, s7, s8, s33, s34, s35, s10, s11, s12, s13, s14, s15, s16, s17, s18, s19, s20]
  clear hF hfr s1 s2 s3 s7 s8 s33 s34 s35 s10 s11 s12 s13 s14 s15 s16 s17 s18 s19 s20
  have H := hide h
  have HA := hide (hA.below hB)
  have HB := hide hB
  have HO := hide hO
  have HZ := hide hz
  clear h hA hB hO hz
  have HN : Hid (¬ ob = 17) := by show ¬ _; rw [ho]; decide
  have ti : ((ob.toNat : Int) == 17) = false := by rw [ho]; rfl
  have tj : ((ob.toNat : Int) == 19) = true := by rw [ho]; rfl
  have H19 : Hid (ob = 19) := ho
  clear ho
  have x0 := HO.out.cell 0
  have x1 := HO.out.cell 1
  have x2 := HO.out.cell 2
  simp at x0 x1 x2
  have f0 := HO.out.frozen 0
  have f1 := HO.out.frozen 1
  have f2 := HO.out.frozen 2
  have HB1 := hide (HA.out.pg g1 #[.int .u8 (k1.toNat : Int), .int .i64 n1, .string s1] (by simp))
  have c0 := HB1.out.cell 0
  have c1 := HB1.out.cell 1
  have c2 := HB1.out.cell 2
  simp at c0 c1 c2
  have HB2 := hide (HA.out.pg g2 #[.int .u8 (k2.toNat : Int), .int .i64 n2, .string s2] (by simp))
  have y0 := HB2.out.cell 0
  have y1 := HB2.out.cell 1
  have y2 := HB2.out.cell 2
  simp at y0 y1 y2
  by_cases h1 : k1 = 0
  · have a1 : ((k1.toNat : Int) == 0) = true := by rw [h1]; rfl
    have hw : k1 = 0 ∨ (k2 ≠ 0 ∧ (ordV ⟨k2, n2, s2⟩ ⟨k1, n1, s1⟩ < 0 ↔ ob = 19)) := .inl h1
    clear h1
    have hz : (⟨zk, zn, zs⟩ : Cell.Val) = ⟨k2, n2, s2⟩ := by rw [HZ.out]; unfold Ev.want; rw [if_neg HN.out, if_pos hw]
    injection hz with z1 z2 z3
    subst z1 z2 z3
    clear hw
    go_wp2_with fail
    refine H.out _ _ ?_ (((HB.out.setCell hgo _).setCell hgo _).setCell hgo _) (blk3 HO.out _ _ _)
    exact ⟨rfl, rfl, rfl, rfl, rfl, rfl, rfl, rfl, rfl, rfl, rfl, rfl, rfl, rfl, rfl, rfl, rfl, rfl, rfl, rfl, rfl, trivial⟩
  · have a1 : ((k1.toNat : Int) == 0) = false := by have : k1.toNat ≠ 0 := fun e => h1 (UInt8.toNat_inj.1 (by rw [e]; rfl)); simp; omega
    by_cases h2 : k2 = 0
    · have b2 : ((k2.toNat : Int) != 0) = false := by rw [h2]; rfl
      have hw : ¬ (k1 = 0 ∨ (k2 ≠ 0 ∧ (ordV ⟨k2, n2, s2⟩ ⟨k1, n1, s1⟩ < 0 ↔ ob = 19))) := by
        rintro (h | ⟨h, _⟩)
        · exact h1 h
        · exact h h2
      clear h1 h2
      have hz : (⟨zk, zn, zs⟩ : Cell.Val) = ⟨k1, n1, s1⟩ := by rw [HZ.out]; unfold Ev.want; rw [if_neg HN.out, if_neg hw]
      injection hz with z1 z2 z3
      subst z1 z2 z3
      clear hw
      go_wp2_with fail
      refine H.out _ _ ?_ HB.out HO.out
      exact ⟨rfl, rfl, rfl, rfl, rfl, rfl, rfl, rfl, rfl, rfl, rfl, rfl, rfl, rfl, rfl, rfl, rfl, rfl, rfl, rfl, rfl, trivial⟩
    · have b2 : ((k2.toNat : Int) != 0) = true := by have : k2.toNat ≠ 0 := fun e => h2 (UInt8.toNat_inj.1 (by rw [e]; rfl)); simp; omega
      obtain ⟨z, hz0⟩ : ∃ z, z = ordV ⟨k2, n2, s2⟩ ⟨k1, n1, s1⟩ := ⟨_, rfl⟩
      have HZ0 := hide hz0
      have H1 := hide h1
      have H2 := hide h2
      clear hz0 h1 h2
      go_wp2_with fail
      have cc := order_any k2 n2 s2 k1 n1 s1 w2
      rw [← HZ0.out] at cc
      with_reducible refine cc.mono ?_
      clear cc
      rintro e w3 ⟨rfl, hb⟩
      have hs2 := HB.out.size
      replace HO := hide (HO.out.below hb HO.out.lt)
      replace HA := hide (HA.out.below hb)
      replace HB := hide (HB.out.trans (hb.mono hs2))
      clear hb HB1 HB2 x0 x1 x2 f0 f1 f2 c0 c1 c2 y0 y1 y2
      have x0 := HO.out.cell 0
      have x1 := HO.out.cell 1
      have x2 := HO.out.cell 2
      simp at x0 x1 x2
      have f0 := HO.out.frozen 0
      have f1 := HO.out.frozen 1
      have f2 := HO.out.frozen 2
      have HB2 := hide (HA.out.pg g2 #[.int .u8 (k2.toNat : Int), .int .i64 n2, .string s2] (by simp))
      have y0 := HB2.out.cell 0
      have y1 := HB2.out.cell 1
      have y2 := HB2.out.cell 2
      simp at y0 y1 y2
      by_cases hlt : z < 0
      · have tl : decide (z < 0) = true := decide_eq_true hlt
        have hw : (k1 = 0 ∨ (k2 ≠ 0 ∧ (ordV ⟨k2, n2, s2⟩ ⟨k1, n1, s1⟩ < 0 ↔ ob = 19))) := by
          rw [← HZ0.out]
          exact .inr ⟨H2.out, fun _ => H19.out, fun _ => hlt⟩

        clear hlt
        have hz : (⟨zk, zn, zs⟩ : Cell.Val) = ⟨k2, n2, s2⟩ := by rw [HZ.out]; unfold Ev.want; rw [if_neg HN.out, if_pos hw]
        injection hz with z1 z2 z3
        subst z1 z2 z3
        clear hw
        go_wp2_with fail
        refine H.out _ _ ?_ (((HB.out.setCell hgo _).setCell hgo _).setCell hgo _) (blk3 HO.out _ _ _)
        exact ⟨rfl, rfl, rfl, rfl, rfl, rfl, rfl, rfl, rfl, rfl, rfl, rfl, rfl, rfl, rfl, rfl, rfl, rfl, rfl, rfl, rfl, trivial⟩
      · have tl : decide (z < 0) = false := decide_eq_false hlt
        have hw : ¬ (k1 = 0 ∨ (k2 ≠ 0 ∧ (ordV ⟨k2, n2, s2⟩ ⟨k1, n1, s1⟩ < 0 ↔ ob = 19))) := by
          rw [← HZ0.out]
          rintro (h | ⟨_, h⟩)
          · exact H1.out h
          · exact hlt (h.2 H19.out)
        clear hlt
        have hz : (⟨zk, zn, zs⟩ : Cell.Val) = ⟨k1, n1, s1⟩ := by rw [HZ.out]; unfold Ev.want; rw [if_neg HN.out, if_neg hw]
        injection hz with z1 z2 z3
        subst z1 z2 z3
        clear hw
        go_wp2_with fail
        refine H.out _ _ ?_ HB.out HO.out
        exact ⟨rfl, rfl, rfl, rfl, rfl, rfl, rfl, rfl, rfl, rfl, rfl, rfl, rfl, rfl, rfl, rfl, rfl, rfl, rfl, rfl, rfl, trivial⟩
set_option linter.unusedVariables false in
set_option maxRecDepth 1000000 in
set_option maxHeartbeats 4000000 in
theorem pb_9x {Q : Exit → Act → World → Prop} {a : Act} {i : Nat} {ob : UInt8} {gf : Nat} {g1 e1 : Nat} {k1 : UInt8} {n1 : Int} {s1 : ByteArray} {g2 e2 : Nat} {k2 : UInt8} {n2 : Int} {s2 : ByteArray} {g3 e3 : Nat} {k3 : UInt8} {n3 : Int} {s3 : ByteArray} {g4 e4 : Nat} {k4 : UInt8} {n4 : Int} {s4 : ByteArray} {go : Nat} {w2 : World} {zk : UInt8} {zn : Int} {zs : ByteArray} (hF : Fr 141 a [(1, .slice Aa na ca), (2, .slice Ab nb cb), (3, .pointer (some ⟨ge, 0, none⟩)), (7, .slice A7 n7 c7), (8, .slice A8 n8 c8), (33, .slice (some ⟨gt, 0, none⟩) 3 3), (34, .int .i64 3), (35, .int .i64 (i : Int)), (10, .int .u8 (ob.toNat : Int)), (11, .pointer (some ⟨gf, 0, none⟩)), (12, .pointer (some ⟨g1, 0, none⟩)), (13, .int .i64 (e1 : Int)), (14, .pointer (some ⟨g2, 0, none⟩)), (15, .int .i64 (e2 : Int)), (16, .pointer (some ⟨g3, 0, none⟩)), (17, .int .i64 (e3 : Int)), (18, .pointer (some ⟨g4, 0, none⟩)), (19, .int .i64 (e4 : Int)), (20, .pointer (some ⟨go, 0, none⟩))]) (hA : Aw w w0 [(g4, #[.int .u8 (k4.toNat : Int), .int .i64 n4, .string s4]), (g3, #[.int .u8 (k3.toNat : Int), .int .i64 n3, .string s3]), (g2, #[.int .u8 (k2.toNat : Int), .int .i64 n2, .string s2]), (g1, #[.int .u8 (k1.toNat : Int), .int .i64 n1, .string s1])]) (hB : Below w0.heap.size w0 w2) (hO : Blk w2 go 24 #[.int .u8 (k1.toNat : Int), .int .i64 n1, .string s1]) (hgo : w0.heap.size ≤ go) (hz : (⟨zk, zn, zs⟩ : Cell.Val) = Ev.want ob ⟨k1, n1, s1⟩ ⟨k2, n2, s2⟩) (ho : ob = 20)
    (h : ∀ a' w', Fr 141 a' [(1, .slice Aa na ca), (2, .slice Ab nb cb), (3, .pointer (some ⟨ge, 0, none⟩)), (7, .slice A7 n7 c7), (8, .slice A8 n8 c8), (33, .slice (some ⟨gt, 0, none⟩) 3 3), (34, .int .i64 3), (35, .int .i64 (i : Int)), (10, .int .u8 (ob.toNat : Int)), (11, .pointer (some ⟨gf, 0, none⟩)), (12, .pointer (some ⟨g1, 0, none⟩)), (13, .int .i64 (e1 : Int)), (14, .pointer (some ⟨g2, 0, none⟩)), (15, .int .i64 (e2 : Int)), (16, .pointer (some ⟨g3, 0, none⟩)), (17, .int .i64 (e3 : Int)), (18, .pointer (some ⟨g4, 0, none⟩)), (19, .int .i64 (e4 : Int)), (20, .pointer (some ⟨go, 0, none⟩))] → Below w0.heap.size w0 w' → Blk w' go 24 #[.int .u8 (zk.toNat : Int), .int .i64 zn, .string zs] → Q .normal a' w') : (cL (pb 9)).wp Tryd.prog Q a w2 := by
  conv => arg 2; whnf
  obtain ⟨f, rfl, ⟨s1, s2, s3, s7, s8, s33, s34, s35, s10, s11, s12, s13, s14, s15, s16, s17, s18, s19, s20, _⟩, hfr⟩ := hF.open141
  rw [hfr] at s1 s2 s3 s7 s8 s33 s34 s35 s10 s11 s12 s13 s14 s15 s16 s17 s18 s19 s20
  rw [s1, s2, s3, s7, s8, s33, s34, s35, s10, s11, s12, s13, s14, s15, s16, s17, s18, s19, s20]
  clear hF hfr s1 s2 s3 s7 s8 s33 s34 s35 s10 s11 s12 s13 s14 s15 s16 s17 s18 s19 s20
  have H := hide h
  have HA := hide (hA.below hB)
  have HB := hide hB
  have HO := hide hO
  have HZ := hide hz
  clear h hA hB hO hz
  have HN : Hid (¬ ob = 17) := by show ¬ _; rw [ho]; decide
  have ti : ((ob.toNat : Int) == 17) = false := by rw [ho]; rfl
  have tj : ((ob.toNat : Int) == 19) = false := by rw [ho]; rfl
  have H19 : Hid (¬ ob = 19) := by show ¬ _; rw [ho]; decide
  clear ho
  have x0 := HO.out.cell 0
  have x1 := HO.out.cell 1
  have x2 := HO.out.cell 2
  simp at x0 x1 x2
  have f0 := HO.out.frozen 0
  have f1 := HO.out.frozen 1
  have f2 := HO.out.frozen 2
  have HB1 := hide (HA.out.pg g1 #[.int .u8 (k1.toNat : Int), .int .i64 n1, .string s1] (by simp))
  have c0 := HB1.out.cell 0
  have c1 := HB1.out.cell 1
  have c2 := HB1.out.cell 2
  simp at c0 c1 c2
  have HB2 := hide (HA.out.pg g2 #[.int .u8 (k2.toNat : Int), .int .i64 n2, .string s2] (by simp))
  have y0 := HB2.out.cell 0
  have y1 := HB2.out.cell 1
  have y2 := HB2.out.cell 2
  simp at y0 y1 y2
  by_cases h1 : k1 = 0
  · have a1 : ((k1.toNat : Int) == 0) = true := by rw [h1]; rfl
    have hw : k1 = 0 ∨ (k2 ≠ 0 ∧ (ordV ⟨k2, n2, s2⟩ ⟨k1, n1, s1⟩ < 0 ↔ ob = 19)) := .inl h1
    clear h1
    have hz : (⟨zk, zn, zs⟩ : Cell.Val) = ⟨k2, n2, s2⟩ := by rw [HZ.out]; unfold Ev.want; rw [if_neg HN.out, if_pos hw]
    injection hz with z1 z2 z3
    subst z1 z2 z3
    clear hw
    go_wp2_with fail
    refine H.out _ _ ?_ (((HB.out.setCell hgo _).setCell hgo _).setCell hgo _) (blk3 HO.out _ _ _)
    exact ⟨rfl, rfl, rfl, rfl, rfl, rfl, rfl, rfl, rfl, rfl, rfl, rfl, rfl, rfl, rfl, rfl, rfl, rfl, rfl, rfl, rfl, trivial⟩
  · have a1 : ((k1.toNat : Int) == 0) = false := by have : k1.toNat ≠ 0 := fun e => h1 (UInt8.toNat_inj.1 (by rw [e]; rfl)); simp; omega
    by_cases h2 : k2 = 0
    · have b2 : ((k2.toNat : Int) != 0) = false := by rw [h2]; rfl
      have hw : ¬ (k1 = 0 ∨ (k2 ≠ 0 ∧ (ordV ⟨k2, n2, s2⟩ ⟨k1, n1, s1⟩ < 0 ↔ ob = 19))) := by
        rintro (h | ⟨h, _⟩)
        · exact h1 h
        · exact h h2
      clear h1 h2
      have hz : (⟨zk, zn, zs⟩ : Cell.Val) = ⟨k1, n1, s1⟩ := by rw [HZ.out]; unfold Ev.want; rw [if_neg HN.out, if_neg hw]
      injection hz with z1 z2 z3
      subst z1 z2 z3
      clear hw
      go_wp2_with fail
      refine H.out _ _ ?_ HB.out HO.out
      exact ⟨rfl, rfl, rfl, rfl, rfl, rfl, rfl, rfl, rfl, rfl, rfl, rfl, rfl, rfl, rfl, rfl, rfl, rfl, rfl, rfl, rfl, trivial⟩
    · have b2 : ((k2.toNat : Int) != 0) = true := by have : k2.toNat ≠ 0 := fun e => h2 (UInt8.toNat_inj.1 (by rw [e]; rfl)); simp; omega
      obtain ⟨z, hz0⟩ : ∃ z, z = ordV ⟨k2, n2, s2⟩ ⟨k1, n1, s1⟩ := ⟨_, rfl⟩
      have HZ0 := hide hz0
      have H1 := hide h1
      have H2 := hide h2
      clear hz0 h1 h2
      go_wp2_with fail
      have cc := order_any k2 n2 s2 k1 n1 s1 w2
      rw [← HZ0.out] at cc
      with_reducible refine cc.mono ?_
      clear cc
      rintro e w3 ⟨rfl, hb⟩
      have hs2 := HB.out.size
      replace HO := hide (HO.out.below hb HO.out.lt)
      replace HA := hide (HA.out.below hb)
      replace HB := hide (HB.out.trans (hb.mono hs2))
      clear hb HB1 HB2 x0 x1 x2 f0 f1 f2 c0 c1 c2 y0 y1 y2
      have x0 := HO.out.cell 0
      have x1 := HO.out.cell 1
      have x2 := HO.out.cell 2
      simp at x0 x1 x2
      have f0 := HO.out.frozen 0
      have f1 := HO.out.frozen 1
      have f2 := HO.out.frozen 2
      have HB2 := hide (HA.out.pg g2 #[.int .u8 (k2.toNat : Int), .int .i64 n2, .string s2] (by simp))
      have y0 := HB2.out.cell 0
      have y1 := HB2.out.cell 1
      have y2 := HB2.out.cell 2
      simp at y0 y1 y2
      by_cases hlt : z < 0
      · have tl : decide (z < 0) = true := decide_eq_true hlt
        have hw : ¬ (k1 = 0 ∨ (k2 ≠ 0 ∧ (ordV ⟨k2, n2, s2⟩ ⟨k1, n1, s1⟩ < 0 ↔ ob = 19))) := by
          rw [← HZ0.out]
          rintro (h | ⟨_, h⟩)
          · exact H1.out h
          · exact H19.out (h.1 hlt)
        clear hlt
        have hz : (⟨zk, zn, zs⟩ : Cell.Val) = ⟨k1, n1, s1⟩ := by rw [HZ.out]; unfold Ev.want; rw [if_neg HN.out, if_neg hw]
        injection hz with z1 z2 z3
        subst z1 z2 z3
        clear hw
        go_wp2_with fail
        refine H.out _ _ ?_ HB.out HO.out
        exact ⟨rfl, rfl, rfl, rfl, rfl, rfl, rfl, rfl, rfl, rfl, rfl, rfl, rfl, rfl, rfl, rfl, rfl, rfl, rfl, rfl, rfl, trivial⟩
      · have tl : decide (z < 0) = false := decide_eq_false hlt
        have hw : (k1 = 0 ∨ (k2 ≠ 0 ∧ (ordV ⟨k2, n2, s2⟩ ⟨k1, n1, s1⟩ < 0 ↔ ob = 19))) := by
          rw [← HZ0.out]
          exact .inr ⟨H2.out, fun h => absurd h hlt, fun h => absurd h H19.out⟩

        clear hlt
        have hz : (⟨zk, zn, zs⟩ : Cell.Val) = ⟨k2, n2, s2⟩ := by rw [HZ.out]; unfold Ev.want; rw [if_neg HN.out, if_pos hw]
        injection hz with z1 z2 z3
        subst z1 z2 z3
        clear hw
        go_wp2_with fail
        refine H.out _ _ ?_ (((HB.out.setCell hgo _).setCell hgo _).setCell hgo _) (blk3 HO.out _ _ _)
        exact ⟨rfl, rfl, rfl, rfl, rfl, rfl, rfl, rfl, rfl, rfl, rfl, rfl, rfl, rfl, rfl, rfl, rfl, rfl, rfl, rfl, rfl, trivial⟩
set_option linter.unusedVariables false in
set_option maxRecDepth 1000000 in
set_option maxHeartbeats 4000000 in
theorem pb_10 {Q : Exit → Act → World → Prop} {a : Act} {i : Nat} {ob : UInt8} {gf : Nat} {g1 e1 : Nat} {k1 : UInt8} {n1 : Int} {s1 : ByteArray} {g2 e2 : Nat} {k2 : UInt8} {n2 : Int} {s2 : ByteArray} {g3 e3 : Nat} {k3 : UInt8} {n3 : Int} {s3 : ByteArray} {g4 e4 : Nat} {k4 : UInt8} {n4 : Int} {s4 : ByteArray} {go : Nat} {w2 : World} (hF : Fr 141 a [(1, .slice Aa na ca), (2, .slice Ab nb cb), (3, .pointer (some ⟨ge, 0, none⟩)), (7, .slice A7 n7 c7), (8, .slice A8 n8 c8), (33, .slice (some ⟨gt, 0, none⟩) 3 3), (34, .int .i64 3), (35, .int .i64 (i : Int)), (10, .int .u8 (ob.toNat : Int)), (11, .pointer (some ⟨gf, 0, none⟩)), (12, .pointer (some ⟨g1, 0, none⟩)), (13, .int .i64 (e1 : Int)), (14, .pointer (some ⟨g2, 0, none⟩)), (15, .int .i64 (e2 : Int)), (16, .pointer (some ⟨g3, 0, none⟩)), (17, .int .i64 (e3 : Int)), (18, .pointer (some ⟨g4, 0, none⟩)), (19, .int .i64 (e4 : Int)), (20, .pointer (some ⟨go, 0, none⟩))]) (hA : Aw w w0 [(g4, #[.int .u8 (k4.toNat : Int), .int .i64 n4, .string s4]), (g3, #[.int .u8 (k3.toNat : Int), .int .i64 n3, .string s3]), (g2, #[.int .u8 (k2.toNat : Int), .int .i64 n2, .string s2]), (g1, #[.int .u8 (k1.toNat : Int), .int .i64 n1, .string s1])]) (hB : Below w0.heap.size w0 w2) (hO : Blk w2 go 24 #[.int .u8 (k3.toNat : Int), .int .i64 n3, .string s3])
    (h : ∀ a', Fr 141 a' [(1, .slice Aa na ca), (2, .slice Ab nb cb), (3, .pointer (some ⟨ge, 0, none⟩)), (7, .slice A7 n7 c7), (8, .slice A8 n8 c8), (33, .slice (some ⟨gt, 0, none⟩) 3 3), (34, .int .i64 3), (35, .int .i64 (i : Int))] → Q .normal a' w2) : (pb 10).wp Tryd.prog Q a w2 := by
  conv => arg 2; whnf
  obtain ⟨f, rfl, ⟨s1, s2, s3, s7, s8, s33, s34, s35, s10, s11, s12, s13, s14, s15, s16, s17, s18, s19, s20, _⟩, hfr⟩ := hF.open141
  rw [hfr] at s1 s2 s3 s7 s8 s33 s34 s35 s10 s11 s12 s13 s14 s15 s16 s17 s18 s19 s20
  rw [s1, s2, s3, s7, s8, s33, s34, s35, s10, s11, s12, s13, s14, s15, s16, s17, s18, s19, s20]
  clear hF hfr s1 s2 s3 s7 s8 s33 s34 s35 s10 s11 s12 s13 s14 s15 s16 s17 s18 s19 s20
  have H := hide h
  have HA := hide (hA.below hB)
  have HO := hide hO
  clear h hA hB hO
  have x0 := HO.out.cell 0
  have x1 := HO.out.cell 1
  have x2 := HO.out.cell 2
  simp at x0 x1 x2
  have HB3 := hide (HA.out.pg g3 #[.int .u8 (k3.toNat : Int), .int .i64 n3, .string s3] (by simp))
  have y0 := HB3.out.cell 0
  have y1 := HB3.out.cell 1
  have y2 := HB3.out.cell 2
  simp at y0 y1 y2
  have q1 : ∀ w, (binOp .neq 24 (.agg #[.int .u8 (k3.toNat : Int), .int .i64 n3, .string s3]) (.agg #[.int .u8 (k3.toNat : Int), .int .i64 n3, .string s3])).run Tryd.prog w = .ok (.bool false) w := fun w => by
    rw [neqV w ⟨k3, n3, s3⟩ ⟨k3, n3, s3⟩, (vbeq_iff _ _).2 rfl]
    rfl
  have q2 := guardV
  go_wp2_with fail
  refine H.out _ ?_
  exact ⟨rfl, rfl, rfl, rfl, rfl, rfl, rfl, rfl, rfl, rfl, trivial⟩
end
end Go.Proofs.YticljmgcgjibpaaDoor
