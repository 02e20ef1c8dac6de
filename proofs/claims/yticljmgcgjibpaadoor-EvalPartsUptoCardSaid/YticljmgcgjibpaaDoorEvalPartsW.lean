/-
  The walk of the law EvalParts: it returns true. Conditions: the tables are laid; what is handed in reads as a tree, and as rows, of which there are not too many.
-/
import Derived.Test.YticljmgcgjibpaaDoorParMath
import Derived.Test.YticljmgcgjibpaaDoorRowsE
import Derived.Test.YticljmgcgjibpaaDoorValEq
import Derived.Test.YticljmgcgjibpaaDoorPieces
import Derived.Test.YticljmgcgjibpaaDoorTold
namespace Go.Proofs.YticljmgcgjibpaaDoor
open Go.RowKit

set_option maxRecDepth 1000000 in
theorem Fr.open141 {a : Act} {l : List (Nat × Value)} (h : Fr 141 a l) : ∃ f : Nat → Value, a = ⟨#[f 0, f 1, f 2, f 3, f 4, f 5, f 6, f 7, f 8, f 9, f 10, f 11, f 12, f 13, f 14, f 15, f 16, f 17, f 18, f 19, f 20, f 21, f 22, f 23, f 24, f 25, f 26, f 27, f 28, f 29, f 30, f 31, f 32, f 33, f 34, f 35, f 36, f 37, f 38, f 39, f 40, f 41, f 42, f 43, f 44, f 45, f 46, f 47, f 48, f 49, f 50, f 51, f 52, f 53, f 54, f 55, f 56, f 57, f 58, f 59, f 60, f 61, f 62, f 63, f 64, f 65, f 66, f 67, f 68, f 69, f 70, f 71, f 72, f 73, f 74, f 75, f 76, f 77, f 78, f 79, f 80, f 81, f 82, f 83, f 84, f 85, f 86, f 87, f 88, f 89, f 90, f 91, f 92, f 93, f 94, f 95, f 96, f 97, f 98, f 99, f 100, f 101, f 102, f 103, f 104, f 105, f 106, f 107, f 108, f 109, f 110, f 111, f 112, f 113, f 114, f 115, f 116, f 117, f 118, f 119, f 120, f 121, f 122, f 123, f 124, f 125, f 126, f 127, f 128, f 129, f 130, f 131, f 132, f 133, f 134, f 135, f 136, f 137, f 138, f 139, f 140], []⟩ ∧ slots a l ∧ ∀ i, a.tmps.getD i undef = f i := by
  obtain ⟨t, d⟩ := a
  obtain ⟨h1, h2, h3⟩ := h
  simp only at h1 h2
  subst h2
  have e : t = ((List.range 141).map fun i => t.getD i undef).toArray := by
    refine Array.ext (by simp [h1]) fun i h4 h5 => ?_
    simp [h4]
  have e2 : ((List.range 141).map fun i => t.getD i undef).toArray = (fun f : Nat → Value => #[f 0, f 1, f 2, f 3, f 4, f 5, f 6, f 7, f 8, f 9, f 10, f 11, f 12, f 13, f 14, f 15, f 16, f 17, f 18, f 19, f 20, f 21, f 22, f 23, f 24, f 25, f 26, f 27, f 28, f 29, f 30, f 31, f 32, f 33, f 34, f 35, f 36, f 37, f 38, f 39, f 40, f 41, f 42, f 43, f 44, f 45, f 46, f 47, f 48, f 49, f 50, f 51, f 52, f 53, f 54, f 55, f 56, f 57, f 58, f 59, f 60, f 61, f 62, f 63, f 64, f 65, f 66, f 67, f 68, f 69, f 70, f 71, f 72, f 73, f 74, f 75, f 76, f 77, f 78, f 79, f 80, f 81, f 82, f 83, f 84, f 85, f 86, f 87, f 88, f 89, f 90, f 91, f 92, f 93, f 94, f 95, f 96, f 97, f 98, f 99, f 100, f 101, f 102, f 103, f 104, f 105, f 106, f 107, f 108, f 109, f 110, f 111, f 112, f 113, f 114, f 115, f 116, f 117, f 118, f 119, f 120, f 121, f 122, f 123, f 124, f 125, f 126, f 127, f 128, f 129, f 130, f 131, f 132, f 133, f 134, f 135, f 136, f 137, f 138, f 139, f 140]) fun i => t.getD i undef := by kernel_rfl
  exact ⟨fun i => t.getD i undef, by conv => lhs; rw [e, e2], h3, fun i => rfl⟩
noncomputable def pt : Nat → Code
  | 0 => Tryd.f4.body.getD .skip
  | n + 1 => cR (pt n)
/-- What is handed in. -/
structure PtC (w : World) (d : Nat) (eh : Ev.Hd) (A : Option Addr) (m c : Nat) (ks : List Ev.Ex) (Aa : Option Addr) (na : Nat) (ra : List (List Cell.Val)) (Ab : Option Addr) (nb : Nat) (rb : List (List Cell.Val)) : Prop where
  ex : ExK w (· < w.heap.size) d A m ks
  ok : HdOk eh
  mc : m ≤ c
  c2 : c ≤ 9223372036854775807
  ra : Rws w (· < w.heap.size) Aa na ra
  rb : Rws w (· < w.heap.size) Ab nb rb
  env : Env w
  sz : (na + nb) * 32 ≤ 140737488355328
/-- What stands in the loop. -/
structure PtS (w wr : World) (ge gt : Nat) (eh : Ev.Hd) (A : Option Addr) (m c : Nat) (A7 : Option Addr) (n7 : Nat) (ra rb : List (List Cell.Val)) (A8 : Option Addr) (n8 : Nat) : Prop where
  bel : Below w.heap.size w wr
  e : Blk wr ge 28 #[.int .u8 (eh.o.toNat : Int), .int .u8 (eh.v.k.toNat : Int), .int .i64 eh.v.n, .string eh.v.s, .string eh.nm, .string eh.of, .int .i64 eh.n, .slice A m c]
  t : Blk wr gt 25 #[.int .u8 17, .int .u8 19, .int .u8 20]
  r7 : Rws wr (· < wr.heap.size) A7 n7 (ra ++ rb)
  r8 : Rws wr (· < wr.heap.size) A8 n8 (rb ++ ra)
theorem PtS.below {w w1 w2 : World} {ge gt : Nat} {eh : Ev.Hd} {A : Option Addr} {m c : Nat} {A7 : Option Addr} {n7 : Nat} {ra rb : List (List Cell.Val)} {A8 : Option Addr} {n8 : Nat} (h : PtS w w1 ge gt eh A m c A7 n7 ra rb A8 n8) (hb : Below w1.heap.size w1 w2) : PtS w w2 ge gt eh A m c A7 n7 ra rb A8 n8 :=
  ⟨h.bel.trans (hb.mono h.bel.size), h.e.below hb h.e.lt, h.t.below hb h.t.lt, h.r7.next hb, h.r8.next hb⟩
theorem own_empty {w : World} {lo g : Nat} (hg : lo ≤ g) (hb : w.heap[g]? = some (.cells #[] 30 (0, 0))) (P : Nat → Prop) : RwOwn w lo P (.slice (some ⟨g, 0, none⟩) 0 0) [] :=
  ⟨[], rfl, ⟨rfl, .inr ⟨g, 0, #[], rfl, hg, hb, Nat.le_refl _, by unfold maxLen; omega, rfl, rfl⟩⟩, fun x h => absurd h (by simp)⟩
section
variable {d : Nat} {eh : Ev.Hd} {A : Option Addr} {m c : Nat} {ks : List Ev.Ex} {Aa Ab A7 A8 : Option Addr} {na ca nb cb n7 c7 n8 c8 ge gt : Nat} {ra rb : List (List Cell.Val)} {w w0 : World}
set_option linter.unusedVariables false in
set_option maxRecDepth 1000000 in
set_option maxHeartbeats 4000000 in
theorem pt_0 {Q : Exit → Act → World → Prop} {a : Act}  (hF : Fr 141 a [(0, .agg #[.int .u8 (eh.o.toNat : Int), .int .u8 (eh.v.k.toNat : Int), .int .i64 eh.v.n, .string eh.v.s, .string eh.nm, .string eh.of, .int .i64 eh.n, .slice A m c]), (1, .slice Aa na ca), (2, .slice Ab nb cb)]) 
    (h : ∀ a' w' ge, Fr 141 a' [(1, .slice Aa na ca), (2, .slice Ab nb cb), (3, .pointer (some ⟨ge, 0, none⟩))] → Below w.heap.size w w' → Blk w' ge 28 #[.int .u8 (eh.o.toNat : Int), .int .u8 (eh.v.k.toNat : Int), .int .i64 eh.v.n, .string eh.v.s, .string eh.nm, .string eh.of, .int .i64 eh.n, .slice A m c] → Q .normal a' w') : (cL (pt 0)).wp Tryd.prog Q a w := by
  conv => arg 2; whnf
  obtain ⟨f, rfl, ⟨s0, s1, s2, _⟩, hfr⟩ := hF.open141
  rw [hfr] at s0 s1 s2
  rw [s0, s1, s2]
  clear hF hfr s0 s1 s2
  have H := hide h
  clear h
  obtain ⟨w1, hw1⟩ : ∃ x, x = w.alloc (.cells #[.int .u8 (eh.o.toNat : Int), .int .u8 (eh.v.k.toNat : Int), .int .i64 eh.v.n, .string eh.v.s, .string eh.nm, .string eh.of, .int .i64 eh.n, .slice A m c] 28) := ⟨_, rfl⟩
  have HX : Hid (Blk w1 w.heap.size 28 #[.int .u8 (eh.o.toNat : Int), .int .u8 (eh.v.k.toNat : Int), .int .i64 eh.v.n, .string eh.v.s, .string eh.nm, .string eh.of, .int .i64 eh.n, .slice A m c]) := by rw [hw1]; exact Blk.new _ _ _
  have HB : Hid (Below w.heap.size w w1) := by rw [hw1]; exact al _ _
  go_wp2_with fail
  rw [← hw1]
  refine H.out _ _ _ ?_ HB.out HX.out
  exact ⟨rfl, rfl, rfl, rfl, rfl, trivial⟩
set_option linter.unusedVariables false in
set_option maxRecDepth 1000000 in
set_option maxHeartbeats 4000000 in
theorem pt_1 {Q : Exit → Act → World → Prop} {a : Act}  (hF : Fr 141 a [(1, .slice Aa na ca), (2, .slice Ab nb cb), (3, .pointer (some ⟨ge, 0, none⟩))]) (hb : Below w.heap.size w w0) (he : Blk w0 ge 28 #[.int .u8 (eh.o.toNat : Int), .int .u8 (eh.v.k.toNat : Int), .int .i64 eh.v.n, .string eh.v.s, .string eh.nm, .string eh.of, .int .i64 eh.n, .slice A m c]) (C : PtC w d eh A m c ks Aa na ra Ab nb rb) 
    (h : ∀ a' w' A7 n7 c7, Fr 141 a' [(1, .slice Aa na ca), (2, .slice Ab nb cb), (3, .pointer (some ⟨ge, 0, none⟩)), (7, .slice A7 n7 c7)] → Below w.heap.size w w' → Blk w' ge 28 #[.int .u8 (eh.o.toNat : Int), .int .u8 (eh.v.k.toNat : Int), .int .i64 eh.v.n, .string eh.v.s, .string eh.nm, .string eh.of, .int .i64 eh.n, .slice A m c] → n7 = (ra ++ rb).length → Rws w' (· < w'.heap.size) A7 n7 (ra ++ rb) → Q .normal a' w') : (cL (pt 1)).wp Tryd.prog Q a w0 := by
  conv => arg 2; whnf
  obtain ⟨f, rfl, ⟨s1, s2, s3, _⟩, hfr⟩ := hF.open141
  rw [hfr] at s1 s2 s3
  rw [s1, s2, s3]
  clear hF hfr s1 s2 s3
  have H := hide h
  have HB := hide hb
  have HX := hide he
  skip
  replace C := hide C
  clear h hb he
  obtain ⟨w1, hw1⟩ : ∃ x, x = w0.alloc (.cells #[] 30) := ⟨_, rfl⟩
  have hb1 : Below w0.heap.size w0 w1 := by rw [hw1]; exact al _ _
  have HO1 : Hid (RwOwn w1 w0.heap.size (fun _ => True) (.slice (some ⟨w0.heap.size, 0, none⟩) 0 0) []) := by rw [hw1]; exact own_empty (Nat.le_refl _) (heap_alloc_new _ _) _
  have hs1 := hb1.size
  have hs0 := HB.out.size
  have HR1 : Hid (Rws w1 (· < w0.heap.size) Aa na ra) := (C.out.ra.next HB.out).keep (fun _ h => h) (fun _ _ h => hb1.cell h)
  have HR2 : Hid (Rws w1 (· < w0.heap.size) Ab nb rb) := (C.out.rb.next HB.out).keep (fun _ h => h) (fun _ _ h => hb1.cell h)
  have HB1 := hide hb1
  have HP1 : Hid (∀ g, g < w0.heap.size → True ∧ g < w1.heap.size ∧ some g ≠ (Value.slice (some ⟨w0.heap.size, 0, none⟩) 0 0).ownBlock) := fun g hg => ⟨trivial, by omega, fun e => by
    simp only [Value.ownBlock] at e
    injection e with e
    omega⟩
  have hz1 : na + nb ≤ 4398046511104 := by have := C.out.sz; omega
  have HL1 := hide C.out.ra.1
  have HL2 := hide C.out.rb.1
  clear hb1
  go_wp2_with (at_builtin; first | (rw [← hw1]; refine wpList_appRw rfl (.tmp 23) (.tmp 24) Tryd.underlying42 rfl w0.heap.size _ _ [] rfl HO1.out Aa na ca ra _ rfl HR1.out HP1.out (by simp; omega) hs1 ?_; intro v3 w3 ho3 hb3; have HO3 := hide ho3; have HB3 := hide hb3; clear ho3 hb3) | (refine wpList_appRw rfl (.tmp 25) (.tmp 26) Tryd.underlying42 rfl w0.heap.size _ _ _ rfl HO3.out Ab nb cb rb (· < w0.heap.size) rfl (HR2.out.keep (fun _ h => h) (fun _ _ h => HB3.out.cell h)) (fun g hg => ⟨trivial, by have := HB3.out.size; omega, fun e => by have := (HO3.out.lt e.symm).1; omega⟩) (by have := HL1.out; simp; omega) (by have := HB3.out.size; omega) ?_; intro v4 w4 ho4 hb4; have HO4 := hide ho4; have HB4 := hide hb4; clear ho4 hb4))
  have hbe : Below w0.heap.size w0 w4 := (HB1.out.trans (HB3.out)).trans (HB4.out)
  obtain ⟨A4, c4, e4, _, _⟩ := HO4.out.form
  subst e4
  have HRw : Hid (Rws w4 (· < w4.heap.size) A4 (([] ++ ra) ++ rb).length (([] ++ ra) ++ rb)) := HO4.out.rws rfl (by have := HL1.out; have := HL2.out; simp; omega)
  obtain ⟨nn, hnn⟩ : ∃ nn, nn = (([] ++ ra) ++ rb).length := ⟨_, rfl⟩
  rw [← hnn] at HRw ⊢
  have HN : Hid (nn = (ra ++ rb).length) := by show _ = _; rw [hnn]; rfl
  have HRf : Hid (Rws w4 (· < w4.heap.size) A4 nn (ra ++ rb)) := HRw.out
  clear hnn HRw HO4
  have HBe := hide hbe
  clear hbe
  go_wp2_with fail
  refine H.out _ _ A4 nn c4 ?_ (HB.out.trans (HBe.out.mono hs0)) (HX.out.below HBe.out HX.out.lt) HN.out HRf.out 
  exact ⟨rfl, rfl, rfl, rfl, rfl, rfl, trivial⟩
set_option linter.unusedVariables false in
set_option maxRecDepth 1000000 in
set_option maxHeartbeats 4000000 in
theorem pt_2 {Q : Exit → Act → World → Prop} {a : Act}  (hF : Fr 141 a [(1, .slice Aa na ca), (2, .slice Ab nb cb), (3, .pointer (some ⟨ge, 0, none⟩)), (7, .slice A7 n7 c7)]) (hb : Below w.heap.size w w0) (he : Blk w0 ge 28 #[.int .u8 (eh.o.toNat : Int), .int .u8 (eh.v.k.toNat : Int), .int .i64 eh.v.n, .string eh.v.s, .string eh.nm, .string eh.of, .int .i64 eh.n, .slice A m c]) (C : PtC w d eh A m c ks Aa na ra Ab nb rb) (h7 : Rws w0 (· < w0.heap.size) A7 n7 (ra ++ rb))
    (h : ∀ a' w' A8 n8 c8, Fr 141 a' [(1, .slice Aa na ca), (2, .slice Ab nb cb), (3, .pointer (some ⟨ge, 0, none⟩)), (7, .slice A7 n7 c7), (8, .slice A8 n8 c8)] → Below w.heap.size w w' → Blk w' ge 28 #[.int .u8 (eh.o.toNat : Int), .int .u8 (eh.v.k.toNat : Int), .int .i64 eh.v.n, .string eh.v.s, .string eh.nm, .string eh.of, .int .i64 eh.n, .slice A m c] → n8 = (rb ++ ra).length → Rws w' (· < w'.heap.size) A8 n8 (rb ++ ra) → Rws w' (· < w'.heap.size) A7 n7 (ra ++ rb) → Q .normal a' w') : (cL (pt 2)).wp Tryd.prog Q a w0 := by
  conv => arg 2; whnf
  obtain ⟨f, rfl, ⟨s1, s2, s3, s7, _⟩, hfr⟩ := hF.open141
  rw [hfr] at s1 s2 s3 s7
  rw [s1, s2, s3, s7]
  clear hF hfr s1 s2 s3 s7
  have H := hide h
  have HB := hide hb
  have HX := hide he
  have H7 := hide h7
  replace C := hide C
  clear h hb he h7
  obtain ⟨w1, hw1⟩ : ∃ x, x = w0.alloc (.cells #[] 30) := ⟨_, rfl⟩
  have hb1 : Below w0.heap.size w0 w1 := by rw [hw1]; exact al _ _
  have HO1 : Hid (RwOwn w1 w0.heap.size (fun _ => True) (.slice (some ⟨w0.heap.size, 0, none⟩) 0 0) []) := by rw [hw1]; exact own_empty (Nat.le_refl _) (heap_alloc_new _ _) _
  have hs1 := hb1.size
  have hs0 := HB.out.size
  have HR1 : Hid (Rws w1 (· < w0.heap.size) Ab nb rb) := (C.out.rb.next HB.out).keep (fun _ h => h) (fun _ _ h => hb1.cell h)
  have HR2 : Hid (Rws w1 (· < w0.heap.size) Aa na ra) := (C.out.ra.next HB.out).keep (fun _ h => h) (fun _ _ h => hb1.cell h)
  have HB1 := hide hb1
  have HP1 : Hid (∀ g, g < w0.heap.size → True ∧ g < w1.heap.size ∧ some g ≠ (Value.slice (some ⟨w0.heap.size, 0, none⟩) 0 0).ownBlock) := fun g hg => ⟨trivial, by omega, fun e => by
    simp only [Value.ownBlock] at e
    injection e with e
    omega⟩
  have hz1 : na + nb ≤ 4398046511104 := by have := C.out.sz; omega
  have HL1 := hide C.out.rb.1
  have HL2 := hide C.out.ra.1
  clear hb1
  go_wp2_with (at_builtin; first | (rw [← hw1]; refine wpList_appRw rfl (.tmp 28) (.tmp 29) Tryd.underlying42 rfl w0.heap.size _ _ [] rfl HO1.out Ab nb cb rb _ rfl HR1.out HP1.out (by simp; omega) hs1 ?_; intro v3 w3 ho3 hb3; have HO3 := hide ho3; have HB3 := hide hb3; clear ho3 hb3) | (refine wpList_appRw rfl (.tmp 30) (.tmp 31) Tryd.underlying42 rfl w0.heap.size _ _ _ rfl HO3.out Aa na ca ra (· < w0.heap.size) rfl (HR2.out.keep (fun _ h => h) (fun _ _ h => HB3.out.cell h)) (fun g hg => ⟨trivial, by have := HB3.out.size; omega, fun e => by have := (HO3.out.lt e.symm).1; omega⟩) (by have := HL1.out; simp; omega) (by have := HB3.out.size; omega) ?_; intro v4 w4 ho4 hb4; have HO4 := hide ho4; have HB4 := hide hb4; clear ho4 hb4))
  have hbe : Below w0.heap.size w0 w4 := (HB1.out.trans (HB3.out)).trans (HB4.out)
  obtain ⟨A4, c4, e4, _, _⟩ := HO4.out.form
  subst e4
  have HRw : Hid (Rws w4 (· < w4.heap.size) A4 (([] ++ rb) ++ ra).length (([] ++ rb) ++ ra)) := HO4.out.rws rfl (by have := HL1.out; have := HL2.out; simp; omega)
  obtain ⟨nn, hnn⟩ : ∃ nn, nn = (([] ++ rb) ++ ra).length := ⟨_, rfl⟩
  rw [← hnn] at HRw ⊢
  have HN : Hid (nn = (rb ++ ra).length) := by show _ = _; rw [hnn]; rfl
  have HRf : Hid (Rws w4 (· < w4.heap.size) A4 nn (rb ++ ra)) := HRw.out
  clear hnn HRw HO4
  have HBe := hide hbe
  clear hbe
  go_wp2_with fail
  refine H.out _ _ A4 nn c4 ?_ (HB.out.trans (HBe.out.mono hs0)) (HX.out.below HBe.out HX.out.lt) HN.out HRf.out (H7.out.next HBe.out)
  exact ⟨rfl, rfl, rfl, rfl, rfl, rfl, rfl, trivial⟩
end
end Go.Proofs.YticljmgcgjibpaaDoor
