/-
  The walk of the law EvalParts, joined: it returns true. Conditions: the tables are laid; what is handed in reads as a tree, and as rows, of which there are not too many.
-/
import Derived.Test.YticljmgcgjibpaaDoorEvalPartsX
namespace Go.Proofs.YticljmgcgjibpaaDoor
open Go.RowKit

section
variable {d : Nat} {eh : Ev.Hd} {A : Option Addr} {m c : Nat} {ks : List Ev.Ex} {Aa Ab A7 A8 : Option Addr} {na ca nb cb n7 c7 n8 c8 ge gt : Nat} {ra rb : List (List Cell.Val)} {w w0 : World}
theorem ptL_eq : ptL = .seq (cL ptL) (.seq (cL (cR ptL)) (.seq (.block 1 (pb 0)) (cR (cR (cR ptL))))) := by kernel_rfl
theorem pt3_eq : cL (pt 3) = .seq (cL (cL (pt 3))) (.block 0 (.loop ptL)) := by kernel_rfl
theorem pbe0 : pb 0 = .seq (cL (pb 0)) (pb 1) := by kernel_rfl
theorem pbe1 : pb 1 = .seq (cL (pb 1)) (pb 2) := by kernel_rfl
theorem pbe2 : pb 2 = .seq (cL (pb 2)) (pb 3) := by kernel_rfl
theorem pbe3 : pb 3 = .seq (cL (pb 3)) (pb 4) := by kernel_rfl
theorem pbe4 : pb 4 = .seq (cL (pb 4)) (pb 5) := by kernel_rfl
theorem pbe5 : pb 5 = .seq (cL (pb 5)) (pb 6) := by kernel_rfl
theorem pbe6 : pb 6 = .seq (cL (pb 6)) (pb 7) := by kernel_rfl
theorem pbe7 : pb 7 = .seq (cL (pb 7)) (pb 8) := by kernel_rfl
theorem pbe8 : pb 8 = .seq (cL (pb 8)) (pb 9) := by kernel_rfl
theorem pbe9 : pb 9 = .seq (cL (pb 9)) (pb 10) := by kernel_rfl
theorem pb_all {Q : Exit → Act → World → Prop} {a : Act} {i : Nat} (hi : i < 3) (hF : Fr 141 a [(1, .slice Aa na ca), (2, .slice Ab nb cb), (3, .pointer (some ⟨ge, 0, none⟩)), (7, .slice A7 n7 c7), (8, .slice A8 n8 c8), (33, .slice (some ⟨gt, 0, none⟩) 3 3), (34, .int .i64 3), (35, .int .i64 (i : Int))]) (hS : PtS w w0 ge gt eh A m c A7 n7 ra rb A8 n8) (C : PtC w d eh A m c ks Aa na ra Ab nb rb)
    (h : ∀ a' w', Fr 141 a' [(1, .slice Aa na ca), (2, .slice Ab nb cb), (3, .pointer (some ⟨ge, 0, none⟩)), (7, .slice A7 n7 c7), (8, .slice A8 n8 c8), (33, .slice (some ⟨gt, 0, none⟩) 3 3), (34, .int .i64 3), (35, .int .i64 (i : Int))] → PtS w w' ge gt eh A m c A7 n7 ra rb A8 n8 → Q .normal a' w' ∧ Q (.exit 1) a' w') : (pb 0).wp Tryd.prog Q a w0 := by
  rw [pbe0, pbe1]
  refine pb_a _ hi hF hS C ?_
  clear hF hS
  intro a w2 ob gf gk ho hF hS hf hex
  rw [pbe2]
  refine wp_seq (pb_f1 hF hS ⟨hS.bel, fun g cs hm => absurd hm (by simp)⟩ C hf hex ?_)
  clear hF hS hf hex
  intro a w3 g1 e1 k1 n1 s1 hp1 hF hS hA hf hex
  rw [pbe3]
  refine wp_seq (pb_f2 hF hS hA C hf hex ?_)
  clear hF hS hA hf hex
  intro a w4 g2 e2 k2 n2 s2 hp2 hF hS hA hf hex
  rw [pbe4]
  refine wp_seq (pb_f3 hF hS hA C hf hex ?_)
  clear hF hS hA hf hex
  intro a w5 g3 e3 k3 n3 s3 hp3 hF hS hA hf hex
  rw [pbe5]
  refine wp_seq (pb_f4 hF hS hA C hf hex ?_)
  clear hF hS hA hf hex
  intro a w6 g4 e4 k4 n4 s4 hp4 hF hS hA hf hex
  rw [pbe6]
  refine wp_seq (pb_6 hF ?_ ?_ ?_)
  · intro hb
    have := Ev.part_err ho (x := .mk eh ks) (ra := ra) (rb := rb) (role := Ev.rR) (by rw [← hp1, ← hp2]; exact hb)
    rw [← hp3, ← hp4] at this
    exact this
  · intro hb a' hF'
    exact (h a' w6 hF' hS).2
  intro h1 h2 a hF
  subst h1 h2
  obtain ⟨q3, q4⟩ := Ev.part_ok ho (x := .mk eh ks) (ra := ra) (rb := rb) (role := Ev.rR) (by rw [← hp1]) (by rw [← hp2])
  rw [← hp3, ← hp1, ← hp2] at q3
  rw [← hp4, ← hp1, ← hp2] at q4
  injection q3 with z3 q3e
  injection q4 with z4 q4e
  simp only at z3 z4
  rw [pbe7]
  refine wp_seq (pb_7 hF hA q3e q4e (z3.trans z4.symm) ?_)
  clear hF
  intro a hF
  rw [pbe8]
  refine wp_seq (pb_8 hF hA ?_)
  clear hF
  intro a w7 go hF hB hO hgo
  rw [pbe9]
  have fin : ∀ a' w', Fr 141 a' [(1, .slice Aa na ca), (2, .slice Ab nb cb), (3, .pointer (some ⟨ge, 0, none⟩)), (7, .slice A7 n7 c7), (8, .slice A8 n8 c8), (33, .slice (some ⟨gt, 0, none⟩) 3 3), (34, .int .i64 3), (35, .int .i64 (i : Int)), (10, .int .u8 (ob.toNat : Int)), (11, .pointer (some ⟨gf, 0, none⟩)), (12, .pointer (some ⟨g1, 0, none⟩)), (13, .int .i64 ((0 : Nat) : Int)), (14, .pointer (some ⟨g2, 0, none⟩)), (15, .int .i64 ((0 : Nat) : Int)), (16, .pointer (some ⟨g3, 0, none⟩)), (17, .int .i64 (e3 : Int)), (18, .pointer (some ⟨g4, 0, none⟩)), (19, .int .i64 (e4 : Int)), (20, .pointer (some ⟨go, 0, none⟩))] → Below w6.heap.size w6 w' → Blk w' go 24 #[.int .u8 (k3.toNat : Int), .int .i64 n3, .string s3] → (pb 10).wp Tryd.prog Q a' w' := fun a' w' hF hB hO => pb_10 hF hA hB hO fun a2 hF2 => (h a2 w' hF2 (hS.below hB)).1
  rcases ho with ho | ho | ho
  · refine wp_seq (pb_9c hF hA hB hO hgo z3 ho ?_ fin)
    subst ho
    obtain ⟨m1, hm1, l1⟩ := Ev.part_count (x := .mk eh ks) (rs := ra) (role := Ev.rR) (by rw [← hp1])
    obtain ⟨m2, hm2, l2⟩ := Ev.part_count (x := .mk eh ks) (rs := rb) (role := Ev.rR) (by rw [← hp2])
    rw [← hp1] at hm1
    rw [← hp2] at hm2
    injection hm1 with _ hm1 _
    injection hm2 with _ hm2 _
    have a1 := C.ra.1
    have a2 := C.rb.1
    have a3 := C.sz
    omega
  · exact wp_seq (pb_9n hF hA hB hO hgo z3 ho fin)
  · exact wp_seq (pb_9x hF hA hB hO hgo z3 ho fin)
/-- The loop's invariant. -/
def PtI (w : World) (ge gt : Nat) (eh : Ev.Hd) (A : Option Addr) (m c : Nat) (Aa : Option Addr) (na ca : Nat) (Ab : Option Addr) (nb cb : Nat) (A7 : Option Addr) (n7 c7 : Nat) (A8 : Option Addr) (n8 c8 : Nat) (ra rb : List (List Cell.Val)) (gg : Nat) (a : Act) (wr : World) : Prop :=
  ∃ i : Nat, i ≤ 3 ∧ gg = 3 - i ∧ Fr 141 a [(1, .slice Aa na ca), (2, .slice Ab nb cb), (3, .pointer (some ⟨ge, 0, none⟩)), (7, .slice A7 n7 c7), (8, .slice A8 n8 c8), (33, .slice (some ⟨gt, 0, none⟩) 3 3), (34, .int .i64 3), (35, .int .i64 (i : Int))] ∧ PtS w wr ge gt eh A m c A7 n7 ra rb A8 n8
set_option linter.unusedVariables false in
set_option maxRecDepth 1000000 in
set_option maxHeartbeats 4000000 in
theorem pt_r3 {Q : Exit → Act → World → Prop} {a : Act}  (hF : Fr 141 a [(1, .slice Aa na ca), (2, .slice Ab nb cb), (3, .pointer (some ⟨ge, 0, none⟩)), (7, .slice A7 n7 c7), (8, .slice A8 n8 c8)]) (hB : Below w.heap.size w w0) (he : Blk w0 ge 28 #[.int .u8 (eh.o.toNat : Int), .int .u8 (eh.v.k.toNat : Int), .int .i64 eh.v.n, .string eh.v.s, .string eh.nm, .string eh.of, .int .i64 eh.n, .slice A m c]) (h7 : Rws w0 (· < w0.heap.size) A7 n7 (ra ++ rb)) (h8 : Rws w0 (· < w0.heap.size) A8 n8 (rb ++ ra))
    (h : ∀ a' w' gt, Fr 141 a' [(1, .slice Aa na ca), (2, .slice Ab nb cb), (3, .pointer (some ⟨ge, 0, none⟩)), (7, .slice A7 n7 c7), (8, .slice A8 n8 c8), (33, .slice (some ⟨gt, 0, none⟩) 3 3), (34, .int .i64 3), (35, .int .i64 ((0 : Nat) : Int))] → PtS w w' ge gt eh A m c A7 n7 ra rb A8 n8 → Q .normal a' w') : (cL (cL (pt 3))).wp Tryd.prog Q a w0 := by
  conv => arg 2; whnf
  obtain ⟨f, rfl, ⟨s1, s2, s3, s7, s8, _⟩, hfr⟩ := hF.open141
  rw [hfr] at s1 s2 s3 s7 s8
  rw [s1, s2, s3, s7, s8]
  clear hF hfr s1 s2 s3 s7 s8
  have H := hide h
  have HB := hide hB
  have HX := hide he
  have H7 := hide h7
  have H8 := hide h8
  clear h hB he h7 h8
  obtain ⟨w1, hw1⟩ : ∃ x, x = w0.alloc (.cells #[.int .u8 17, .int .u8 19, .int .u8 20] 25) := ⟨_, rfl⟩
  have HT : Hid (Blk w1 w0.heap.size 25 #[.int .u8 17, .int .u8 19, .int .u8 20]) := by rw [hw1]; exact Blk.new _ _ _
  have hb : Below w0.heap.size w0 w1 := by rw [hw1]; exact al _ _
  have HS : Hid (PtS w w1 ge w0.heap.size eh A m c A7 n7 ra rb A8 n8) := ⟨HB.out.trans (hb.mono HB.out.size), HX.out.below hb HX.out.lt, HT.out, H7.out.next hb, H8.out.next hb⟩
  clear hb
  go_wp2_with fail
  rw [← hw1]
  refine H.out _ _ _ ?_ HS.out
  exact ⟨rfl, rfl, rfl, rfl, rfl, rfl, rfl, rfl, rfl, rfl, trivial⟩
set_option linter.unusedVariables false in
set_option maxRecDepth 1000000 in
set_option maxHeartbeats 4000000 in
theorem pt_r4 {Q : Exit → Act → World → Prop} {a : Act} (Z : Code) {i : Nat} (hF : Fr 141 a [(1, .slice Aa na ca), (2, .slice Ab nb cb), (3, .pointer (some ⟨ge, 0, none⟩)), (7, .slice A7 n7 c7), (8, .slice A8 n8 c8), (33, .slice (some ⟨gt, 0, none⟩) 3 3), (34, .int .i64 3), (35, .int .i64 (i : Int))]) 
    (h0 : i = 3 → ∀ a', Fr 141 a' [(1, .slice Aa na ca), (2, .slice Ab nb cb), (3, .pointer (some ⟨ge, 0, none⟩)), (7, .slice A7 n7 c7), (8, .slice A8 n8 c8)] → Q (.exit 0) a' w0) (h1 : i ≠ 3 → ∀ a', Fr 141 a' [(1, .slice Aa na ca), (2, .slice Ab nb cb), (3, .pointer (some ⟨ge, 0, none⟩)), (7, .slice A7 n7 c7), (8, .slice A8 n8 c8), (33, .slice (some ⟨gt, 0, none⟩) 3 3), (34, .int .i64 3), (35, .int .i64 (i : Int))] → Z.wp Tryd.prog Q a' w0) (hi : i ≤ 3) : (Code.seq (cL ptL) (Code.seq (cL (cR ptL)) Z)).wp Tryd.prog Q a w0 := by
  conv => arg 2; arg 1; whnf
  conv => arg 2; arg 2; arg 1; whnf
  obtain ⟨f, rfl, ⟨s1, s2, s3, s7, s8, s33, s34, s35, _⟩, hfr⟩ := hF.open141
  rw [hfr] at s1 s2 s3 s7 s8 s33 s34 s35
  rw [s1, s2, s3, s7, s8, s33, s34, s35]
  clear hF hfr s1 s2 s3 s7 s8 s33 s34 s35
  have H := hide h0
  have H1 := hide h1
  clear h0 h1
  by_cases h3 : i = 3
  · replace H := hide (H.out h3)
    subst h3
    clear H1
    go_wp2_with fail
    refine H.out _ ?_
    exact ⟨rfl, rfl, rfl, rfl, rfl, rfl, rfl, trivial⟩
  · replace H1 := hide (H1.out h3)
    have t1 : decide ((i : Int) < 3) = true := decide_eq_true (by omega)
    clear H h3
    go_wp2_with fail
    refine H1.out _ ?_
    exact ⟨rfl, rfl, rfl, rfl, rfl, rfl, rfl, rfl, rfl, rfl, trivial⟩
set_option linter.unusedVariables false in
set_option maxRecDepth 1000000 in
set_option maxHeartbeats 4000000 in
theorem pt_r23 {Q : Exit → Act → World → Prop} {a : Act} {i : Nat} (hF : Fr 141 a [(1, .slice Aa na ca), (2, .slice Ab nb cb), (3, .pointer (some ⟨ge, 0, none⟩)), (7, .slice A7 n7 c7), (8, .slice A8 n8 c8), (33, .slice (some ⟨gt, 0, none⟩) 3 3), (34, .int .i64 3), (35, .int .i64 (i : Int))]) (hi : i < 3)
    (h : ∀ a', Fr 141 a' [(1, .slice Aa na ca), (2, .slice Ab nb cb), (3, .pointer (some ⟨ge, 0, none⟩)), (7, .slice A7 n7 c7), (8, .slice A8 n8 c8), (33, .slice (some ⟨gt, 0, none⟩) 3 3), (34, .int .i64 3), (35, .int .i64 ((i + 1 : Nat) : Int))] → Q .normal a' w0) : (cR (cR (cR ptL))).wp Tryd.prog Q a w0 := by
  conv => arg 2; whnf
  obtain ⟨f, rfl, ⟨s1, s2, s3, s7, s8, s33, s34, s35, _⟩, hfr⟩ := hF.open141
  rw [hfr] at s1 s2 s3 s7 s8 s33 s34 s35
  rw [s1, s2, s3, s7, s8, s33, s34, s35]
  clear hF hfr s1 s2 s3 s7 s8 s33 s34 s35
  have H := hide h
  clear h
  go_wp2_with fail
  refine H.out _ ?_
  exact ⟨rfl, rfl, rfl, rfl, rfl, rfl, rfl, rfl, rfl, by go_num, trivial⟩
theorem pt_3 {Q : Exit → Act → World → Prop} {a : Act} (hF : Fr 141 a [(1, .slice Aa na ca), (2, .slice Ab nb cb), (3, .pointer (some ⟨ge, 0, none⟩)), (7, .slice A7 n7 c7), (8, .slice A8 n8 c8)]) (hB : Below w.heap.size w w0) (he : Blk w0 ge 28 #[.int .u8 (eh.o.toNat : Int), .int .u8 (eh.v.k.toNat : Int), .int .i64 eh.v.n, .string eh.v.s, .string eh.nm, .string eh.of, .int .i64 eh.n, .slice A m c]) (h7 : Rws w0 (· < w0.heap.size) A7 n7 (ra ++ rb)) (h8 : Rws w0 (· < w0.heap.size) A8 n8 (rb ++ ra)) (C : PtC w d eh A m c ks Aa na ra Ab nb rb)
    (h : ∀ a' w', Fr 141 a' [(1, .slice Aa na ca), (2, .slice Ab nb cb), (3, .pointer (some ⟨ge, 0, none⟩)), (7, .slice A7 n7 c7), (8, .slice A8 n8 c8)] → Below w.heap.size w w' → Rws w' (· < w'.heap.size) A7 n7 (ra ++ rb) → Q .normal a' w') : (cL (pt 3)).wp Tryd.prog Q a w0 := by
  rw [pt3_eq]
  refine wp_seq (pt_r3 hF hB he h7 h8 ?_)
  clear hF hB he h7 h8
  intro a w1 gt hF hS
  refine wp_block (wp_loop_ghost (PtI w ge gt eh A m c Aa na ca Ab nb cb A7 n7 c7 A8 n8 c8 ra rb) 3 ⟨0, by omega, rfl, hF, hS⟩ ?_)
  clear hF hS
  rintro gg a w2 ⟨i, hi, rfl, hF, hS⟩
  rw [ptL_eq]
  refine pt_r4 _ hF ?_ ?_ hi
  · intro h3 a' hF'
    exact h a' w2 hF' hS.bel hS.r7
  intro h3 a hF
  have hi3 : i < 3 := by omega
  refine wp_seq (wp_block (pb_all hi3 hF hS C ?_))
  clear hF
  intro a' w3 hF hS
  have fin : (cR (cR (cR ptL))).wp Tryd.prog (Exit.then (fun a' w' => ∃ n', n' < 3 - i ∧ PtI w ge gt eh A m c Aa na ca Ab nb cb A7 n7 c7 A8 n8 c8 ra rb n' a' w') (Exit.inBlock 0 Q)) a' w3 := pt_r23 (w0 := w3) hF hi3 fun a2 hF2 => ⟨3 - (i + 1), by omega, i + 1, by omega, rfl, hF2, hS⟩
  exact ⟨fin, fin⟩
set_option linter.unusedVariables false in
set_option maxRecDepth 1000000 in
set_option maxHeartbeats 4000000 in
theorem pt_4 {Q : Exit → Act → World → Prop} {a : Act}  (hF : Fr 141 a [(1, .slice Aa na ca), (2, .slice Ab nb cb), (3, .pointer (some ⟨ge, 0, none⟩)), (7, .slice A7 n7 c7), (8, .slice A8 n8 c8)]) (hB : Below w.heap.size w w0) (h7 : Rws w0 (· < w0.heap.size) A7 n7 (ra ++ rb)) (C : PtC w d eh A m c ks Aa na ra Ab nb rb)
    (h : ∀ a' w' gz, Fr 141 a' [(1, .slice Aa na ca), (2, .slice Ab nb cb), (3, .pointer (some ⟨ge, 0, none⟩)), (7, .slice A7 n7 c7), (21, .pointer (some ⟨gz, 0, none⟩)), (22, .int .i64 0)] → Below w.heap.size w w' → Blk w' gz 24 #[.int .u8 2, .int .i64 (n7 : Int), .string ⟨#[]⟩] → Q .normal a' w') : (cL (pt 4)).wp Tryd.prog Q a w0 := by
  conv => arg 2; whnf
  obtain ⟨f, rfl, ⟨s1, s2, s3, s7, s8, _⟩, hfr⟩ := hF.open141
  rw [hfr] at s1 s2 s3 s7 s8
  rw [s1, s2, s3, s7, s8]
  clear hF hfr s1 s2 s3 s7 s8
  have H := hide h
  have HB := hide hB
  have H7 := hide h7
  replace C := hide C
  clear h hB h7
  go_wp2_with fail
  have cc : Calls Tryd.prog 11 #[.agg #[.int .u8 17, .int .u8 0, .int .i64 0, .string ⟨#[]⟩, .string ⟨#[]⟩, .string ⟨#[]⟩, .int .i64 0, .slice none 0 0], .slice A7 n7 c7, .string ⟨#[114]⟩] w0 fun e w' => e = .returned (.tuple #[.agg #[.int .u8 2, .int .i64 (n7 : Int), .string ⟨#[]⟩], .int .i64 0]) ∧ Below w0.heap.size w0 w' := by
    have := fold_any 0 (Ev.hd 17) [] none 0 0 A7 n7 c7 (ra ++ rb) Ev.rR w0 ⟨rfl, rfl⟩ (hdOk_mk vOk_vz (by decide) (by decide)) (by decide) (by decide) H7.out (by decide) (C.out.env.next HB.out)
    rw [Ev.fold_all rfl, ← H7.out.1] at this
    exact this
  with_reducible refine cc.mono ?_
  clear cc
  rintro e w1 ⟨rfl, hb⟩
  replace HB := hide (HB.out.trans (hb.mono HB.out.size))
  clear hb
  obtain ⟨w2, hw2⟩ : ∃ x, x = w1.alloc (.cells #[.int .u8 2, .int .i64 (n7 : Int), .string ⟨#[]⟩] 24) := ⟨_, rfl⟩
  have HV : Hid (Blk w2 w1.heap.size 24 #[.int .u8 2, .int .i64 (n7 : Int), .string ⟨#[]⟩]) := by rw [hw2]; exact Blk.new _ _ _
  have hb : Below w1.heap.size w1 w2 := by rw [hw2]; exact al _ _
  replace HB := hide (HB.out.trans (hb.mono HB.out.size))
  clear hb
  go_wp2_with fail
  rw [← hw2]
  refine H.out _ _ _ ?_ HB.out HV.out
  exact ⟨rfl, rfl, rfl, rfl, rfl, rfl, rfl, rfl, trivial⟩
set_option linter.unusedVariables false in
set_option maxRecDepth 1000000 in
set_option maxHeartbeats 4000000 in
theorem pt_5 {Q : Exit → Act → World → Prop} {a : Act} {gz : Nat} (hF : Fr 141 a [(1, .slice Aa na ca), (2, .slice Ab nb cb), (3, .pointer (some ⟨ge, 0, none⟩)), (7, .slice A7 n7 c7), (21, .pointer (some ⟨gz, 0, none⟩)), (22, .int .i64 0)]) (hB : Below w.heap.size w w0) (hv : Blk w0 gz 24 #[.int .u8 2, .int .i64 (n7 : Int), .string ⟨#[]⟩]) (C : PtC w d eh A m c ks Aa na ra Ab nb rb)
    (h : ∀ a' w', Fr 141 a' [(6, .bool true)] → Below w.heap.size w w' → Q .normal a' w') : (cL (pt 5)).wp Tryd.prog Q a w0 := by
  conv => arg 2; whnf
  obtain ⟨f, rfl, ⟨s1, s2, s3, s7, s21, s22, _⟩, hfr⟩ := hF.open141
  rw [hfr] at s1 s2 s3 s7 s21 s22
  rw [s1, s2, s3, s7, s21, s22]
  clear hF hfr s1 s2 s3 s7 s21 s22
  have H := hide h
  have HB := hide hB
  have HV := hide hv
  replace C := hide C
  clear h hB hv
  have q1 : ∀ w, (binOp .eql 24 (.agg #[.int .u8 2, .int .i64 (n7 : Int), .string ⟨#[]⟩]) (.agg #[.int .u8 2, .int .i64 (n7 : Int), .string ⟨#[]⟩])).run Tryd.prog w = .ok (.bool true) w := fun w => by
    have := eqlV w ⟨2, (n7 : Int), ⟨#[]⟩⟩ ⟨2, (n7 : Int), ⟨#[]⟩⟩
    rw [(vbeq_iff _ _).2 rfl] at this
    exact this
  have q2 := guardV
  have hTs := tab_stable (l := [(6, NoF), (10, NoF)]) (fun p hp => by
      simp only [List.mem_cons, List.not_mem_nil, or_false] at hp
      rcases hp with rfl | rfl
      · exact NoF.stable
      · exact NoF.stable)
  have hSs := shp_some (l := [(6, IsV (.agg #[.int .u8 2, .int .i64 (n7 : Int), .string ⟨#[]⟩])), (10, IsV (.bool true))]) (fun p hp => by
      simp only [List.mem_cons, List.not_mem_nil, or_false] at hp
      rcases hp with rfl | rfl
      · exact IsV.some _
      · exact IsV.some _)
  have HTs := hide hTs
  have HSs := hide hSs
  clear hTs hSs
  refine wp_region_toldL (tab [(6, NoF), (10, NoF)]) (Up w0) (w0.heap.size) 13 (shp [(6, IsV (.agg #[.int .u8 2, .int .i64 (n7 : Int), .string ⟨#[]⟩])), (10, IsV (.bool true))]) (HSs.out) (HTs.out) (Up.lives _) Gro (Gro.turns (Up.lives _) (HTs.out)) (by kernel_rfl) (by kernel_rfl) (Up.start _) (Nat.le_refl _) ?_
  simp only [List.take_succ_cons, List.take_zero, List.drop_succ_cons, List.drop_zero]
  refine wpTold_read ?_ rfl rfl (fun w' hS => ?_) ?_
  rotate_left
  · go_simp
    rfl
  go_frame
  refine wpTold_read ?_ rfl rfl (fun w' hS => ?_) ?_
  rotate_left
  · go_simp
    rfl
  go_frame
  refine wpTold_read ?_ rfl rfl (fun w' hS => ?_) ?_
  rotate_left
  · go_simp
    rfl
  go_frame
  refine wpTold_read ?_ rfl rfl (fun w' hS => ?_) ?_
  rotate_left
  · have l0 := (Blk.below (HV.out) hS HV.out.lt).cell 0
    have l1 := (Blk.below (HV.out) hS HV.out.lt).cell 1
    have l2 := (Blk.below (HV.out) hS HV.out.lt).cell 2
    simp at l0 l1 l2
    go_simp
    rfl
  go_frame
  refine wpTold_read ?_ rfl rfl (fun w' hS => ?_) ?_
  rotate_left
  · go_simp
    rfl
  go_frame
  refine wpTold_read ?_ rfl rfl (fun w' hS => ?_) ?_
  rotate_left
  · go_simp
    rfl
  go_frame
  refine' wpTold_call _ _ _ rfl rfl (fun w' => ?_) (fun w' hS hh hs => ?_) (fun v6 h6 => ?_)
  rotate_left 2
  · go_simp
    constructor <;> rfl
  · refine (num_any (n7 : Int) w').mono ?_
    rintro e w9 ⟨rfl, hb⟩
    exact ⟨_, rfl, ⟨rfl, trivial⟩, hb⟩
  obtain rfl := h6
  go_frame
  refine wpTold_read ?_ rfl rfl (fun w' hS => ?_) ?_
  rotate_left
  · go_simp
    rfl
  go_frame
  refine wpTold_read ?_ rfl rfl (fun w' hS => ?_) ?_
  rotate_left
  · go_simp
    rfl
  go_frame
  refine wpTold_read ?_ rfl rfl (fun w' hS => ?_) ?_
  rotate_left
  · go_simp
    rfl
  go_frame
  refine' wpTold_call _ _ _ rfl rfl (fun w' => ?_) (fun w' hS hh hs => ?_) (fun v10 h10 => ?_)
  rotate_left 2
  · go_simp
    constructor <;> rfl
  · refine (awake_any w' ((C.out.env.next HB.out).next hS)).mono ?_
    rintro e w9 ⟨rfl, hb⟩
    exact ⟨_, rfl, ⟨rfl, trivial⟩, hb⟩
  obtain rfl := h10
  go_frame
  refine wpTold_read ?_ rfl rfl (fun w' hS => ?_) ?_
  rotate_left
  · go_simp
    rfl
  go_frame
  refine wpTold_read ?_ rfl rfl (fun w' hS => ?_) ?_
  rotate_left
  · go_simp
    rfl
  go_frame
  refine wpTold_nil fun w6 hH => ?_
  have hup : Below w0.heap.size w0 w6 := hH.s
  have HB6 := hide (HB.out.trans (hup.mono HB.out.size))
  clear hH hup
  go_wp2_with fail
  refine H.out _ _ ?_ HB6.out
  exact ⟨rfl, rfl, rfl, trivial⟩
theorem pte0 : pt 0 = .seq (cL (pt 0)) (pt 1) := by kernel_rfl
theorem pte1 : pt 1 = .seq (cL (pt 1)) (pt 2) := by kernel_rfl
theorem pte2 : pt 2 = .seq (cL (pt 2)) (pt 3) := by kernel_rfl
theorem pte3 : pt 3 = .seq (cL (pt 3)) (pt 4) := by kernel_rfl
theorem pte4 : pt 4 = .seq (cL (pt 4)) (pt 5) := by kernel_rfl
theorem pte5 : pt 5 = .seq (cL (pt 5)) (pt 6) := by kernel_rfl
theorem pte6 : pt 6 = .ret := by kernel_rfl
end
set_option linter.unusedVariables false in
set_option maxRecDepth 1000000 in
set_option maxHeartbeats 4000000 in
theorem evalParts_any (eh : Ev.Hd) (A : Option Addr) (m c d : Nat) (ks : List Ev.Ex) (Aa : Option Addr) (na ca : Nat) (ra : List (List Cell.Val)) (Ab : Option Addr) (nb cb : Nat) (rb : List (List Cell.Val)) (w : World) (hE : Env w) (hex : ExK w (· < w.heap.size) d A m ks) (hok : HdOk eh) (hmc : m ≤ c) (hc2 : c ≤ 9223372036854775807) (hra : Rws w (· < w.heap.size) Aa na ra) (hna : na ≤ 1048576) (hrb : Rws w (· < w.heap.size) Ab nb rb) (hnb : nb ≤ 1048576) :
    Calls Tryd.prog 4 #[exV eh A m c, .slice Aa na ca, .slice Ab nb cb] w fun e w' => e = .returned (.bool true) ∧ Below w.heap.size w w' := by
  have C : PtC w d eh A m c ks Aa na ra Ab nb rb := ⟨hex, hok, hmc, hc2, hra, hrb, hE, by omega⟩
  refine calls_of_wp Tryd.func4 (c := pt 0) (by kernel_rfl) ?_
  unfold exV
  have hF : Fr 141 { tmps := #[.agg #[.int .u8 (eh.o.toNat : Int), .int .u8 (eh.v.k.toNat : Int), .int .i64 eh.v.n, .string eh.v.s, .string eh.nm, .string eh.of, .int .i64 eh.n, .slice A m c], .slice Aa na ca, .slice Ab nb cb] ++ Array.replicate (Tryd.f4.ntmps - (#[.agg #[.int .u8 (eh.o.toNat : Int), .int .u8 (eh.v.k.toNat : Int), .int .i64 eh.v.n, .string eh.v.s, .string eh.nm, .string eh.of, .int .i64 eh.n, .slice A m c], .slice Aa na ca, .slice Ab nb cb] : Array Value).size) undef, defers := [] } [(0, .agg #[.int .u8 (eh.o.toNat : Int), .int .u8 (eh.v.k.toNat : Int), .int .i64 eh.v.n, .string eh.v.s, .string eh.nm, .string eh.of, .int .i64 eh.n, .slice A m c]), (1, .slice Aa na ca), (2, .slice Ab nb cb)] := by
    rw [Tryd.ntmps4]
    exact ⟨by simp, rfl, by simp, by simp, by simp, trivial⟩
  revert hF
  generalize ({ tmps := #[.agg #[.int .u8 (eh.o.toNat : Int), .int .u8 (eh.v.k.toNat : Int), .int .i64 eh.v.n, .string eh.v.s, .string eh.nm, .string eh.of, .int .i64 eh.n, .slice A m c], .slice Aa na ca, .slice Ab nb cb] ++ Array.replicate (Tryd.f4.ntmps - (#[.agg #[.int .u8 (eh.o.toNat : Int), .int .u8 (eh.v.k.toNat : Int), .int .i64 eh.v.n, .string eh.v.s, .string eh.nm, .string eh.of, .int .i64 eh.n, .slice A m c], .slice Aa na ca, .slice Ab nb cb] : Array Value).size) undef, defers := [] } : Act) = a
  intro hF
  rw [pte0]
  refine wp_seq (pt_0 hF ?_)
  clear hF
  intro a w1 ge hF hb he
  rw [pte1]
  refine wp_seq (pt_1 hF hb he C ?_)
  clear hF hb he
  intro a w2 A7 n7 c7 hF hb he _ h7
  rw [pte2]
  refine wp_seq (pt_2 hF hb he C h7 ?_)
  clear hF hb he h7
  intro a w3 A8 n8 c8 hF hb he _ h8 h7
  rw [pte3]
  refine wp_seq (pt_3 hF hb he h7 h8 C ?_)
  clear hF hb he h7 h8
  intro a w4 hF hb h7
  rw [pte4]
  refine wp_seq (pt_4 hF hb h7 C ?_)
  clear hF hb h7
  intro a w5 gz hF hb hv
  rw [pte5]
  refine wp_seq (pt_5 hF hb hv C ?_)
  clear hF hb hv
  intro a w6 hF hb
  rw [pte6]
  refine wp_ret ?_
  obtain ⟨f, rfl, ⟨s0, _⟩, hfr⟩ := hF.open141
  rw [hfr] at s0
  rw [s0]
  go_ret
  exact ⟨rfl, hb⟩
end Go.Proofs.YticljmgcgjibpaaDoor
