/-
  The plain law of EvalNulls: what a literal beside NULL, IS NULL, and NOT come to. Conditions: none. No program is named here.
-/
import Derived.Test.YticljmgcgjibpaaDoorEvH
import Derived.Test.YticljmgcgjibpaaDoorPieces
namespace Go.Proofs.YticljmgcgjibpaaDoor
namespace Ev
open Val (vz)
section
variable {r : List V} {role : ByteArray}
theorem right_vz : Cell.rightB vz = true := by rfl
theorem val_lit (v : V) : (Ex.mk (hLit v) []).val r role = if Cell.rightB v = true then (v, 0) else (vz, 2) := by
  rw [val_leaf]
  unfold leaf hLit
  simp only [if_true]
theorem val_ok {v : V} (hv : Cell.rightB v = true) : (Ex.mk (hLit v) []).val r role = (v, 0) := by rw [val_lit, if_pos hv]
theorem val_no {v : V} (hv : Cell.rightB v = false) : (Ex.mk (hLit v) []).val r role = (vz, 2) := by rw [val_lit, if_neg (by simp [hv])]
theorem nul_cmp {v : V} (hv : Cell.rightB v = true) {o : UInt8} (h1 : 7 ≤ o.toNat) (h2 : o.toNat ≤ 12) : is ((Ex.mk (hd o) [.mk (hLit v) [], .mk (hLit vz) []]).val r role) = (2, 0) := by
  have e : vals r role [.mk (hLit v) [], .mk (hLit vz) []] = ([v, vz], 0) := by
    rw [vals_cons, vals_cons, val_ok hv, val_ok right_vz]
    rfl
  rw [val_op e (by simp)]
  have hne : ∀ n : UInt8, n.toNat < 7 ∨ 12 < n.toNat → o ≠ n := fun n hn he => by subst he; omega
  have ha : arity o = 2 := by
    unfold arity
    rw [if_neg (by
      rintro (h | h | h)
      · exact hne 3 (by decide) h
      · exact hne 15 (by decide) h
      · exact hne 16 (by decide) h), if_pos (by omega)]
  have hb : Val.compare o.toNat v vz = (2, 0) := Val.compare_null h1 h2 (by unfold Val.bothRight; rw [hv, right_vz]; rfl) (.inr rfl)
  show is (opn o [v, vz]) = _
  simp only [opn]
  rw [if_pos ha]
  unfold op2
  rw [if_neg (hne 4 (by decide)), if_neg (hne 5 (by decide)), if_neg (hne 6 (by decide)), if_neg (hne 13 (by decide)), if_neg (hne 14 (by decide))]
  unfold cmp2
  rw [hb]
  rfl
theorem nul_is {v : V} (hv : Cell.rightB v = true) : is ((Ex.mk (hd 16) [.mk (hLit v) []]).val r role) = (if v.k = 0 then 1 else 0, 0) := by
  have e : vals r role [.mk (hLit v) []] = ([v], 0) := by
    rw [vals_cons, val_ok hv]
    rfl
  rw [val_op e (by simp)]
  show is (null1 v) = _
  unfold null1
  by_cases h : v.k = 0
  · rw [if_pos h]; rfl
  · rw [if_neg h]; rfl
theorem kn_truth (v : V) : (Lg.truth v).1 < 3 := by
  unfold Lg.truth
  repeat' split
  all_goals decide
theorem truth_of' {a : Nat} (h : a < 3) : Lg.truth (Lg.of_ a) = (a, 0) := by
  have : a = 0 ∨ a = 1 ∨ a = 2 := by omega
  rcases this with rfl | rfl | rfl
  · rfl
  · rfl
  · rfl
theorem nul_not (e : Ex) : is ((Ex.mk (hd 15) [e]).val r role) = if (is (e.val r role)).2 ≠ 0 then (0, (is (e.val r role)).2) else (Lg.not_ (is (e.val r role)).1, 0) := by
  obtain ⟨p, hp⟩ : ∃ p, p = e.val r role := ⟨_, rfl⟩
  rw [← hp]
  by_cases h : p.2 = 0
  · have e1 : vals r role [e] = ([p.1], 0) := by
      rw [vals_cons, ← hp, cons_ok h (by simp only [vals])]
      simp only [vals]
    rw [val_op e1 (by simp)]
    show is (lg1 p.1) = _
    have e2 : is p = Lg.truth p.1 := by unfold is; rw [if_neg (by simp [h])]
    rw [e2]
    unfold lg1
    by_cases h2 : (Lg.truth p.1).2 = 0
    · rw [if_neg (by simp [h2]), if_neg (by simp [h2])]
      show Lg.truth (Lg.of_ _) = _
      exact truth_of' (Lg.not_lt _)
    · rw [if_pos h2, if_pos h2]
      unfold is
      rw [if_pos h2]
  · have e1 : vals r role [e] = ([], p.2) := by rw [vals_cons, ← hp, cons_fst h]
    rw [val_err e1 h]
    have e2 : is p = (0, p.2) := by unfold is; rw [if_pos h]
    rw [e2]
    unfold is
    rw [if_pos h, if_pos h]
end
end Ev
end Go.Proofs.YticljmgcgjibpaaDoor

/-
  Frames of more sizes, laid open. Conditions: none. No program is named here.
-/
namespace Go.Proofs.YticljmgcgjibpaaDoor
open Go Go.RowKit

set_option maxRecDepth 1000000 in
theorem Fr.open108 {a : Act} {l : List (Nat × Value)} (h : Fr 108 a l) : ∃ f : Nat → Value, a = ⟨#[f 0, f 1, f 2, f 3, f 4, f 5, f 6, f 7, f 8, f 9, f 10, f 11, f 12, f 13, f 14, f 15, f 16, f 17, f 18, f 19, f 20, f 21, f 22, f 23, f 24, f 25, f 26, f 27, f 28, f 29, f 30, f 31, f 32, f 33, f 34, f 35, f 36, f 37, f 38, f 39, f 40, f 41, f 42, f 43, f 44, f 45, f 46, f 47, f 48, f 49, f 50, f 51, f 52, f 53, f 54, f 55, f 56, f 57, f 58, f 59, f 60, f 61, f 62, f 63, f 64, f 65, f 66, f 67, f 68, f 69, f 70, f 71, f 72, f 73, f 74, f 75, f 76, f 77, f 78, f 79, f 80, f 81, f 82, f 83, f 84, f 85, f 86, f 87, f 88, f 89, f 90, f 91, f 92, f 93, f 94, f 95, f 96, f 97, f 98, f 99, f 100, f 101, f 102, f 103, f 104, f 105, f 106, f 107], []⟩ ∧ slots a l ∧ ∀ i, a.tmps.getD i undef = f i := by
  obtain ⟨t, d⟩ := a
  obtain ⟨h1, h2, h3⟩ := h
  simp only at h1 h2
  subst h2
  have e : t = ((List.range 108).map fun i => t.getD i undef).toArray := by
    refine Array.ext (by simp [h1]) fun i h4 h5 => ?_
    simp [h4]
  have e2 : ((List.range 108).map fun i => t.getD i undef).toArray = (fun f : Nat → Value => #[f 0, f 1, f 2, f 3, f 4, f 5, f 6, f 7, f 8, f 9, f 10, f 11, f 12, f 13, f 14, f 15, f 16, f 17, f 18, f 19, f 20, f 21, f 22, f 23, f 24, f 25, f 26, f 27, f 28, f 29, f 30, f 31, f 32, f 33, f 34, f 35, f 36, f 37, f 38, f 39, f 40, f 41, f 42, f 43, f 44, f 45, f 46, f 47, f 48, f 49, f 50, f 51, f 52, f 53, f 54, f 55, f 56, f 57, f 58, f 59, f 60, f 61, f 62, f 63, f 64, f 65, f 66, f 67, f 68, f 69, f 70, f 71, f 72, f 73, f 74, f 75, f 76, f 77, f 78, f 79, f 80, f 81, f 82, f 83, f 84, f 85, f 86, f 87, f 88, f 89, f 90, f 91, f 92, f 93, f 94, f 95, f 96, f 97, f 98, f 99, f 100, f 101, f 102, f 103, f 104, f 105, f 106, f 107]) fun i => t.getD i undef := by kernel_rfl
  exact ⟨fun i => t.getD i undef, by conv => lhs; rw [e, e2], h3, fun i => rfl⟩
end Go.Proofs.YticljmgcgjibpaaDoor

/-
  The walk of the law EvalNulls: it returns true. Conditions: the tables are laid; what is handed in reads as a value, a tree, a row.
-/
namespace Go.Proofs.YticljmgcgjibpaaDoor
open Go.RowKit

section
variable {w wr : World} {g b B : Nat} {t : TypeId} {cs : Array Value}
theorem Blk.put8 {x0 x1 x2 x3 x4 x5 x6 x7 : Value} (h : Blk w g t #[x0, x1, x2, x3, x4, x5, x6, x7]) (u0 u1 u2 u3 u4 u5 u6 u7 : Value) : Blk ((((((((w.setCell ⟨g, 0, none⟩ (u0)).setCell ⟨g, 1, none⟩ (u1)).setCell ⟨g, 2, none⟩ (u2)).setCell ⟨g, 3, none⟩ (u3)).setCell ⟨g, 4, none⟩ (u4)).setCell ⟨g, 5, none⟩ (u5)).setCell ⟨g, 6, none⟩ (u6)).setCell ⟨g, 7, none⟩ (u7)) g t #[u0, u1, u2, u3, u4, u5, u6, u7] :=
  by simpa using ((((((((h.put 0 u0).put 1 u1).put 2 u2).put 3 u3).put 4 u4).put 5 u5).put 6 u6).put 7 u7)
theorem Blk.far8 (h : Blk w b t cs) (hne : b ≠ g) (u0 u1 u2 u3 u4 u5 u6 u7 : Value) : Blk ((((((((w.setCell ⟨g, 0, none⟩ (u0)).setCell ⟨g, 1, none⟩ (u1)).setCell ⟨g, 2, none⟩ (u2)).setCell ⟨g, 3, none⟩ (u3)).setCell ⟨g, 4, none⟩ (u4)).setCell ⟨g, 5, none⟩ (u5)).setCell ⟨g, 6, none⟩ (u6)).setCell ⟨g, 7, none⟩ (u7)) b t cs :=
  ((((((((h.far (p := ⟨g, 0, none⟩) hne u0).far (p := ⟨g, 1, none⟩) hne u1).far (p := ⟨g, 2, none⟩) hne u2).far (p := ⟨g, 3, none⟩) hne u3).far (p := ⟨g, 4, none⟩) hne u4).far (p := ⟨g, 5, none⟩) hne u5).far (p := ⟨g, 6, none⟩) hne u6).far (p := ⟨g, 7, none⟩) hne u7)
theorem below8 {w0 : World} (h : Below B w0 w) (hg : B ≤ g) (u0 u1 u2 u3 u4 u5 u6 u7 : Value) : Below B w0 ((((((((w.setCell ⟨g, 0, none⟩ (u0)).setCell ⟨g, 1, none⟩ (u1)).setCell ⟨g, 2, none⟩ (u2)).setCell ⟨g, 3, none⟩ (u3)).setCell ⟨g, 4, none⟩ (u4)).setCell ⟨g, 5, none⟩ (u5)).setCell ⟨g, 6, none⟩ (u6)).setCell ⟨g, 7, none⟩ (u7)) :=
  ((((((((h.setCell (p := ⟨g, 0, none⟩) hg u0).setCell (p := ⟨g, 1, none⟩) hg u1).setCell (p := ⟨g, 2, none⟩) hg u2).setCell (p := ⟨g, 3, none⟩) hg u3).setCell (p := ⟨g, 4, none⟩) hg u4).setCell (p := ⟨g, 5, none⟩) hg u5).setCell (p := ⟨g, 6, none⟩) hg u6).setCell (p := ⟨g, 7, none⟩) hg u7)
end
def noT : Told := fun _ _ _ => False
theorem noT_one : noT.One := fun _ _ _ _ h => h.elim
set_option linter.unusedVariables false in
set_option maxRecDepth 1000000 in
set_option maxHeartbeats 4000000 in
theorem op_any (o : UInt8) (hx hy : Ev.Hd) (Ax Ay : Option Addr) (mx cx my cy : Nat) (w : World) :
    Calls Tryd.prog 9 #[.int .u8 (o.toNat : Int), exV hx Ax mx cx, exV hy Ay my cy] w fun e w' => ∃ g, e = .returned (exV (Ev.hd o) (some ⟨g, 0, none⟩) 2 2) ∧ Blk w' g 28 #[.int .u8 (hx.o.toNat : Int), .int .u8 (hx.v.k.toNat : Int), .int .i64 hx.v.n, .string hx.v.s, .string hx.nm, .string hx.of, .int .i64 hx.n, .slice Ax mx cx, .int .u8 (hy.o.toNat : Int), .int .u8 (hy.v.k.toNat : Int), .int .i64 hy.v.n, .string hy.v.s, .string hy.nm, .string hy.of, .int .i64 hy.n, .slice Ay my cy] ∧ Below w.heap.size w w' := by
  unfold exV
  obtain ⟨w1, hw1⟩ : ∃ x, x = ((w.alloc (.cells #[.int .u8 (hx.o.toNat : Int), .int .u8 (hx.v.k.toNat : Int), .int .i64 hx.v.n, .string hx.v.s, .string hx.nm, .string hx.of, .int .i64 hx.n, .slice Ax mx cx] 28)).alloc (.cells #[.int .u8 (hy.o.toNat : Int), .int .u8 (hy.v.k.toNat : Int), .int .i64 hy.v.n, .string hy.v.s, .string hy.nm, .string hy.of, .int .i64 hy.n, .slice Ay my cy] 28)).alloc (.cells #[.int .u8 0, .int .u8 0, .int .i64 0, .string ⟨#[]⟩, .string ⟨#[]⟩, .string ⟨#[]⟩, .int .i64 0, .slice none 0 0] 28) := ⟨_, rfl⟩
  have HX : Hid (Blk w1 w.heap.size 28 #[.int .u8 (hx.o.toNat : Int), .int .u8 (hx.v.k.toNat : Int), .int .i64 hx.v.n, .string hx.v.s, .string hx.nm, .string hx.of, .int .i64 hx.n, .slice Ax mx cx]) := by rw [hw1]; exact ((Blk.new w _ _).alloc _).alloc _
  have HY : Hid (Blk w1 (w.heap.size + 1) 28 #[.int .u8 (hy.o.toNat : Int), .int .u8 (hy.v.k.toNat : Int), .int .i64 hy.v.n, .string hy.v.s, .string hy.nm, .string hy.of, .int .i64 hy.n, .slice Ay my cy]) := by
    rw [hw1]
    have := (Blk.new (w.alloc (.cells #[.int .u8 (hx.o.toNat : Int), .int .u8 (hx.v.k.toNat : Int), .int .i64 hx.v.n, .string hx.v.s, .string hx.nm, .string hx.of, .int .i64 hx.n, .slice Ax mx cx] 28)) 28 #[.int .u8 (hy.o.toNat : Int), .int .u8 (hy.v.k.toNat : Int), .int .i64 hy.v.n, .string hy.v.s, .string hy.nm, .string hy.of, .int .i64 hy.n, .slice Ay my cy]).alloc (.cells #[.int .u8 0, .int .u8 0, .int .i64 0, .string ⟨#[]⟩, .string ⟨#[]⟩, .string ⟨#[]⟩, .int .i64 0, .slice none 0 0] 28)
    exact hide (by simpa using this)
  have HZ : Hid (Blk w1 (w.heap.size + 1 + 1) 28 #[.int .u8 0, .int .u8 0, .int .i64 0, .string ⟨#[]⟩, .string ⟨#[]⟩, .string ⟨#[]⟩, .int .i64 0, .slice none 0 0]) := by
    rw [hw1]
    have := Blk.new ((w.alloc (.cells #[.int .u8 (hx.o.toNat : Int), .int .u8 (hx.v.k.toNat : Int), .int .i64 hx.v.n, .string hx.v.s, .string hx.nm, .string hx.of, .int .i64 hx.n, .slice Ax mx cx] 28)).alloc (.cells #[.int .u8 (hy.o.toNat : Int), .int .u8 (hy.v.k.toNat : Int), .int .i64 hy.v.n, .string hy.v.s, .string hy.nm, .string hy.of, .int .i64 hy.n, .slice Ay my cy] 28)) 28 #[.int .u8 0, .int .u8 0, .int .i64 0, .string ⟨#[]⟩, .string ⟨#[]⟩, .string ⟨#[]⟩, .int .i64 0, .slice none 0 0]
    exact hide (by simpa using this)
  have HB : Hid (Below w.heap.size w w1) := by
    rw [hw1]
    exact (((Below.refl _ _).alloc (Nat.le_refl _) _).alloc (by simp) _).alloc (by simp; omega) _
  have hs : w1.heap.size = w.heap.size + 1 + 1 + 1 := by rw [hw1]; simp
  go_enter Tryd.func9, Tryd.ntmps9
  go_upto_region 1 with fail
  rw [← hw1]
  clear hw1
  have x0 := HX.out.cell 0
  have x1 := HX.out.cell 1
  have x2 := HX.out.cell 2
  have x3 := HX.out.cell 3
  have x4 := HX.out.cell 4
  have x5 := HX.out.cell 5
  have x6 := HX.out.cell 6
  have x7 := HX.out.cell 7
  simp at x0 x1 x2 x3 x4 x5 x6 x7
  have y0 := HY.out.cell 0
  have y1 := HY.out.cell 1
  have y2 := HY.out.cell 2
  have y3 := HY.out.cell 3
  have y4 := HY.out.cell 4
  have y5 := HY.out.cell 5
  have y6 := HY.out.cell 6
  have y7 := HY.out.cell 7
  simp at y0 y1 y2 y3 y4 y5 y6 y7
  obtain ⟨w2, hw2⟩ : ∃ x, w1.alloc (.cells #[.int .u8 (hx.o.toNat : Int), .int .u8 (hx.v.k.toNat : Int), .int .i64 hx.v.n, .string hx.v.s, .string hx.nm, .string hx.of, .int .i64 hx.n, .slice Ax mx cx, .int .u8 (hy.o.toNat : Int), .int .u8 (hy.v.k.toNat : Int), .int .i64 hy.v.n, .string hy.v.s, .string hy.nm, .string hy.of, .int .i64 hy.n, .slice Ay my cy] 28) = x := ⟨_, rfl⟩
  have hz2 : Blk w2 (w.heap.size + 1 + 1) 28 #[.int .u8 0, .int .u8 0, .int .i64 0, .string ⟨#[]⟩, .string ⟨#[]⟩, .string ⟨#[]⟩, .int .i64 0, .slice none 0 0] := by rw [← hw2]; exact HZ.out.alloc _
  have hk2 : Blk w2 (w.heap.size + 1 + 1 + 1) 28 #[.int .u8 (hx.o.toNat : Int), .int .u8 (hx.v.k.toNat : Int), .int .i64 hx.v.n, .string hx.v.s, .string hx.nm, .string hx.of, .int .i64 hx.n, .slice Ax mx cx, .int .u8 (hy.o.toNat : Int), .int .u8 (hy.v.k.toNat : Int), .int .i64 hy.v.n, .string hy.v.s, .string hy.nm, .string hy.of, .int .i64 hy.n, .slice Ay my cy] := by rw [← hw2, ← hs]; exact Blk.new _ _ _
  have hb2 : Below w.heap.size w w2 := by rw [← hw2]; exact HB.out.alloc (by omega) _
  have HZ2 := hide hz2
  have HK2 := hide hk2
  have HB2 := hide hb2
  have z0 := hz2.cell 0
  have z1 := hz2.cell 1
  have z2 := hz2.cell 2
  have z3 := hz2.cell 3
  have z4 := hz2.cell 4
  have z5 := hz2.cell 5
  have z6 := hz2.cell 6
  have z7 := hz2.cell 7
  simp at z0 z1 z2 z3 z4 z5 z6 z7
  have f0 := hz2.frozen 0
  have f1 := hz2.frozen 1
  have f2 := hz2.frozen 2
  have f3 := hz2.frozen 3
  have f4 := hz2.frozen 4
  have f5 := hz2.frozen 5
  have f6 := hz2.frozen 6
  have f7 := hz2.frozen 7
  clear hz2 hk2 hb2 HX HY HZ HB
  go_wp2_with fail
  exact bodyPost_ret (v := .agg #[.int .u8 (o.toNat : Int), .int .u8 0, .int .i64 0, .string ⟨#[]⟩, .string ⟨#[]⟩, .string ⟨#[]⟩, .int .i64 0, .slice (some ⟨w.heap.size + 1 + 1 + 1, 0, none⟩) 2 2]) (results_ex rfl (HZ2.out.put8 _ _ _ _ _ _ _ _) rfl) rfl ⟨w.heap.size + 1 + 1 + 1, rfl, HK2.out.far8 (by omega) _ _ _ _ _ _ _ _, below8 HB2.out (by omega) _ _ _ _ _ _ _ _⟩

/-- What is handed in. -/
structure NuC (w : World) (d : Nat) (eh : Ev.Hd) (A : Option Addr) (m c : Nat) (ks : List Ev.Ex) (Ar : Option Addr) (nr cr : Nat) (r : List Cell.Val) (k : UInt8) (n : Int) (s : ByteArray) : Prop where
  ex : ExK w (· < w.heap.size) d A m ks
  ok : HdOk eh
  mc : m ≤ c
  c2 : c ≤ 9223372036854775807
  rv : Rv w w.heap.size Ar nr r
  nr : nr ≤ 9223372036854775807
  env : Env w
  v : vOk ⟨k, n, s⟩
/-- What stands while the law runs: the value's block, the expression's, those of null and lit. -/
structure Nu (w wr : World) (gv ge gn gl : Nat) (k : UInt8) (n : Int) (s : ByteArray) (eh : Ev.Hd) (A : Option Addr) (m c : Nat) : Prop where
  bel : Below w.heap.size w wr
  hv : Blk wr gv 24 #[.int .u8 (k.toNat : Int), .int .i64 n, .string s]
  he : Blk wr ge 28 #[.int .u8 (eh.o.toNat : Int), .int .u8 (eh.v.k.toNat : Int), .int .i64 eh.v.n, .string eh.v.s, .string eh.nm, .string eh.of, .int .i64 eh.n, .slice A m c]
  hn : Blk wr gn 28 #[.int .u8 1, .int .u8 0, .int .i64 0, .string ⟨#[]⟩, .string ⟨#[]⟩, .string ⟨#[]⟩, .int .i64 0, .slice none 0 0]
  hl : Blk wr gl 28 #[.int .u8 1, .int .u8 (k.toNat : Int), .int .i64 n, .string s, .string ⟨#[]⟩, .string ⟨#[]⟩, .int .i64 0, .slice none 0 0]
theorem Nu.below {w w1 w2 : World} {gv ge gn gl : Nat} {k : UInt8} {n : Int} {s : ByteArray} {eh : Ev.Hd} {A : Option Addr} {m c : Nat} (h : Nu w w1 gv ge gn gl k n s eh A m c) (hb : Below w1.heap.size w1 w2) : Nu w w2 gv ge gn gl k n s eh A m c :=
  ⟨h.bel.trans (hb.mono h.bel.size), h.hv.below hb h.hv.lt, h.he.below hb h.he.lt, h.hn.below hb h.hn.lt, h.hl.below hb h.hl.lt⟩
section
variable {w w0 : World} {gv ge : Nat} {k : UInt8} {n : Int} {s : ByteArray} {eh : Ev.Hd} {A : Option Addr} {m c : Nat}
theorem Nu.ab (hb : Below w.heap.size w w0) (hv : Blk w0 gv 24 #[.int .u8 (k.toNat : Int), .int .i64 n, .string s]) (he : Blk w0 ge 28 #[.int .u8 (eh.o.toNat : Int), .int .u8 (eh.v.k.toNat : Int), .int .i64 eh.v.n, .string eh.v.s, .string eh.nm, .string eh.of, .int .i64 eh.n, .slice A m c]) : Nu w ((w0.alloc (.cells #[.int .u8 1, .int .u8 0, .int .i64 0, .string ⟨#[]⟩, .string ⟨#[]⟩, .string ⟨#[]⟩, .int .i64 0, .slice none 0 0] 28)).alloc (.cells #[.int .u8 1, .int .u8 (k.toNat : Int), .int .i64 n, .string s, .string ⟨#[]⟩, .string ⟨#[]⟩, .int .i64 0, .slice none 0 0] 28)).drew gv ge w0.heap.size (w0.heap.size + 1) k n s eh A m c :=
  ⟨((hb.alloc hb.size _).alloc (by simp; have := hb.size; omega) _).drew, (hv.alloc _).alloc _, (he.alloc _).alloc _, (Blk.new w0 _ _).alloc _, by
    have := Blk.new (w0.alloc (.cells #[.int .u8 1, .int .u8 0, .int .i64 0, .string ⟨#[]⟩, .string ⟨#[]⟩, .string ⟨#[]⟩, .int .i64 0, .slice none 0 0] 28)) 28 #[.int .u8 1, .int .u8 (k.toNat : Int), .int .i64 n, .string s, .string ⟨#[]⟩, .string ⟨#[]⟩, .int .i64 0, .slice none 0 0]
    rw [show (w0.alloc (.cells #[.int .u8 1, .int .u8 0, .int .i64 0, .string ⟨#[]⟩, .string ⟨#[]⟩, .string ⟨#[]⟩, .int .i64 0, .slice none 0 0] 28)).heap.size = w0.heap.size + 1 by simp] at this
    exact this⟩
theorem Nu.ba (hb : Below w.heap.size w w0) (hv : Blk w0 gv 24 #[.int .u8 (k.toNat : Int), .int .i64 n, .string s]) (he : Blk w0 ge 28 #[.int .u8 (eh.o.toNat : Int), .int .u8 (eh.v.k.toNat : Int), .int .i64 eh.v.n, .string eh.v.s, .string eh.nm, .string eh.of, .int .i64 eh.n, .slice A m c]) : Nu w ((w0.alloc (.cells #[.int .u8 1, .int .u8 (k.toNat : Int), .int .i64 n, .string s, .string ⟨#[]⟩, .string ⟨#[]⟩, .int .i64 0, .slice none 0 0] 28)).alloc (.cells #[.int .u8 1, .int .u8 0, .int .i64 0, .string ⟨#[]⟩, .string ⟨#[]⟩, .string ⟨#[]⟩, .int .i64 0, .slice none 0 0] 28)).drew gv ge (w0.heap.size + 1) w0.heap.size k n s eh A m c :=
  ⟨((hb.alloc hb.size _).alloc (by simp; have := hb.size; omega) _).drew, (hv.alloc _).alloc _, (he.alloc _).alloc _, by
    have := Blk.new (w0.alloc (.cells #[.int .u8 1, .int .u8 (k.toNat : Int), .int .i64 n, .string s, .string ⟨#[]⟩, .string ⟨#[]⟩, .int .i64 0, .slice none 0 0] 28)) 28 #[.int .u8 1, .int .u8 0, .int .i64 0, .string ⟨#[]⟩, .string ⟨#[]⟩, .string ⟨#[]⟩, .int .i64 0, .slice none 0 0]
    rw [show (w0.alloc (.cells #[.int .u8 1, .int .u8 (k.toNat : Int), .int .i64 n, .string s, .string ⟨#[]⟩, .string ⟨#[]⟩, .int .i64 0, .slice none 0 0] 28)).heap.size = w0.heap.size + 1 by simp] at this
    exact this, (Blk.new w0 _ _).alloc _⟩
end
noncomputable def nu : Nat → Code
  | 0 => Tryd.f3.body.getD .skip
  | n + 1 => cR (nu n)
section
variable {d : Nat} {eh : Ev.Hd} {A : Option Addr} {m c : Nat} {ks : List Ev.Ex} {Ar : Option Addr} {nr cr : Nat} {r : List Cell.Val} {k : UInt8} {n : Int} {s : ByteArray} {w : World}
set_option linter.unusedVariables false in
set_option maxRecDepth 1000000 in
set_option maxHeartbeats 4000000 in
theorem nu_0 {Q : Exit → Act → World → Prop} {a : Act} {w0 : World} (hF : Fr 108 a [(0, .agg #[.int .u8 (k.toNat : Int), .int .i64 n, .string s]), (1, .agg #[.int .u8 (eh.o.toNat : Int), .int .u8 (eh.v.k.toNat : Int), .int .i64 eh.v.n, .string eh.v.s, .string eh.nm, .string eh.of, .int .i64 eh.n, .slice A m c]), (2, .slice Ar nr cr)]) (h0 : w0 = w)
    (h : ∀ a' w' gv ge, Fr 108 a' [(2, .slice Ar nr cr), (3, .pointer (some ⟨gv, 0, none⟩)), (4, .pointer (some ⟨ge, 0, none⟩))] → Below w.heap.size w w' → Blk w' gv 24 #[.int .u8 (k.toNat : Int), .int .i64 n, .string s] → Blk w' ge 28 #[.int .u8 (eh.o.toNat : Int), .int .u8 (eh.v.k.toNat : Int), .int .i64 eh.v.n, .string eh.v.s, .string eh.nm, .string eh.of, .int .i64 eh.n, .slice A m c] → Q .normal a' w') : (cL (nu 0)).wp Tryd.prog Q a w0 := by
  conv => arg 2; whnf
  obtain ⟨f, rfl, ⟨s0, s1, s2, _⟩, hfr⟩ := hF.open108
  rw [hfr] at s0 s1 s2
  rw [s0, s1, s2]
  clear hF hfr s0 s1 s2
  subst h0
  have H := hide h
  clear h
  obtain ⟨w1, hw1⟩ : ∃ x, x = (w0.alloc (.cells #[.int .u8 (k.toNat : Int), .int .i64 n, .string s] 24)).alloc (.cells #[.int .u8 (eh.o.toNat : Int), .int .u8 (eh.v.k.toNat : Int), .int .i64 eh.v.n, .string eh.v.s, .string eh.nm, .string eh.of, .int .i64 eh.n, .slice A m c] 28) := ⟨_, rfl⟩
  have HV : Hid (Blk w1 w0.heap.size 24 #[.int .u8 (k.toNat : Int), .int .i64 n, .string s]) := by rw [hw1]; exact (Blk.new w0 _ _).alloc _
  have HX : Hid (Blk w1 (w0.heap.size + 1) 28 #[.int .u8 (eh.o.toNat : Int), .int .u8 (eh.v.k.toNat : Int), .int .i64 eh.v.n, .string eh.v.s, .string eh.nm, .string eh.of, .int .i64 eh.n, .slice A m c]) := by
    rw [hw1]
    have := Blk.new (w0.alloc (.cells #[.int .u8 (k.toNat : Int), .int .i64 n, .string s] 24)) 28 #[.int .u8 (eh.o.toNat : Int), .int .u8 (eh.v.k.toNat : Int), .int .i64 eh.v.n, .string eh.v.s, .string eh.nm, .string eh.of, .int .i64 eh.n, .slice A m c]
    exact hide (by simpa using this)
  have HB : Hid (Below w0.heap.size w0 w1) := by
    rw [hw1]
    exact ((Below.refl _ _).alloc (Nat.le_refl _) _).alloc (by simp) _
  go_wp2_with fail
  rw [← hw1]
  refine H.out _ _ _ _ ?_ HB.out HV.out HX.out
  exact ⟨rfl, rfl, rfl, rfl, rfl, trivial⟩
set_option linter.unusedVariables false in
set_option maxRecDepth 1000000 in
set_option maxHeartbeats 4000000 in
theorem nu_1 {Q : Exit → Act → World → Prop} {a : Act} {w0 : World} {gv ge : Nat} (hF : Fr 108 a [(2, .slice Ar nr cr), (3, .pointer (some ⟨gv, 0, none⟩)), (4, .pointer (some ⟨ge, 0, none⟩))]) (hb : Below w.heap.size w w0) (hv : Blk w0 gv 24 #[.int .u8 (k.toNat : Int), .int .i64 n, .string s]) (he : Blk w0 ge 28 #[.int .u8 (eh.o.toNat : Int), .int .u8 (eh.v.k.toNat : Int), .int .i64 eh.v.n, .string eh.v.s, .string eh.nm, .string eh.of, .int .i64 eh.n, .slice A m c])
    (h : ∀ a' w' gn gl, Fr 108 a' [(2, .slice Ar nr cr), (3, .pointer (some ⟨gv, 0, none⟩)), (4, .pointer (some ⟨ge, 0, none⟩)), (7, .pointer (some ⟨gn, 0, none⟩)), (8, .pointer (some ⟨gl, 0, none⟩))] → Nu w w' gv ge gn gl k n s eh A m c → Q .normal a' w') : (cL (nu 1)).wp Tryd.prog Q a w0 := by
  conv => arg 2; whnf
  obtain ⟨f, rfl, ⟨s2, s3, s4, _⟩, hfr⟩ := hF.open108
  rw [hfr] at s2 s3 s4
  rw [s2, s3, s4]
  clear hF hfr s2 s3 s4
  have H := hide h
  have HB := hide hb
  have HV := hide hv
  have HX := hide he
  clear h hb hv he
  have v0 := HV.out.cell 0
  have v1 := HV.out.cell 1
  have v2 := HV.out.cell 2
  simp at v0 v1 v2
  have hvl : gv < w0.heap.size := HV.out.lt
  go_frame
  go_region
  all_goals clear v0 v1 v2
  · refine H.out _ _ w0.heap.size (w0.heap.size + 1) ?_ (Nu.ab HB.out HV.out HX.out)
    exact ⟨rfl, rfl, rfl, rfl, rfl, rfl, rfl, trivial⟩
  · refine H.out _ _ (w0.heap.size + 1) w0.heap.size ?_ (Nu.ba HB.out HV.out HX.out)
    exact ⟨rfl, rfl, rfl, rfl, rfl, rfl, rfl, trivial⟩

set_option linter.unusedVariables false in
set_option maxRecDepth 1000000 in
set_option maxHeartbeats 4000000 in
theorem nu_2 {Q : Exit → Act → World → Prop} {a : Act} {w0 : World} {gv ge gn gl : Nat} (hF : Fr 108 a [(2, .slice Ar nr cr), (3, .pointer (some ⟨gv, 0, none⟩)), (4, .pointer (some ⟨ge, 0, none⟩)), (7, .pointer (some ⟨gn, 0, none⟩)), (8, .pointer (some ⟨gl, 0, none⟩))]) (hN : Nu w w0 gv ge gn gl k n s eh A m c) (C : NuC w d eh A m c ks Ar nr cr r k n s)
    (h1 : Cell.rightB ⟨k, n, s⟩ = true → ∀ a' w', Fr 108 a' [(2, .slice Ar nr cr), (3, .pointer (some ⟨gv, 0, none⟩)), (4, .pointer (some ⟨ge, 0, none⟩)), (7, .pointer (some ⟨gn, 0, none⟩)), (8, .pointer (some ⟨gl, 0, none⟩))] → Nu w w' gv ge gn gl k n s eh A m c → Q .normal a' w') (h2 : Cell.rightB ⟨k, n, s⟩ = false → ∀ a' w', Fr 108 a' [(6, .bool true)] → Below w.heap.size w w' → Q .ret a' w') : (cL (nu 2)).wp Tryd.prog Q a w0 := by
  conv => arg 2; whnf
  obtain ⟨f, rfl, ⟨s2, s3, s4, s7, s8, _⟩, hfr⟩ := hF.open108
  rw [hfr] at s2 s3 s4 s7 s8
  rw [s2, s3, s4, s7, s8]
  clear hF hfr s2 s3 s4 s7 s8
  have H1 := hide h1
  have H2 := hide h2
  have HN := hide hN
  replace C := hide C
  clear h1 h2 hN
  have v0 := HN.out.hv.cell 0
  have v1 := HN.out.hv.cell 1
  have v2 := HN.out.hv.cell 2
  simp at v0 v1 v2
  go_wp2_with fail
  with_reducible refine (right_any k n s _).mono ?_
  rintro e w1 ⟨rfl, hb⟩
  clear v0 v1 v2
  replace HN := hide (HN.out.below hb)
  clear hb
  obtain ⟨q, hq⟩ : ∃ q, q = Cell.rightB ⟨k, n, s⟩ := ⟨_, rfl⟩
  rw [← hq]
  have HQ := hide hq.symm
  clear hq
  cases q with
  | true =>
    go_wp2_with fail
    refine H1.out HQ.out _ _ ?_ HN.out
    exact ⟨rfl, rfl, rfl, rfl, rfl, rfl, rfl, trivial⟩
  | false =>
    have l0 := HN.out.hl.cell 0
    have l1 := HN.out.hl.cell 1
    have l2 := HN.out.hl.cell 2
    have l3 := HN.out.hl.cell 3
    have l4 := HN.out.hl.cell 4
    have l5 := HN.out.hl.cell 5
    have l6 := HN.out.hl.cell 6
    have l7 := HN.out.hl.cell 7
    simp at l0 l1 l2 l3 l4 l5 l6 l7
    go_wp2_with fail
    have cc : Calls Tryd.prog 6 #[.agg #[.int .u8 1, .int .u8 (k.toNat : Int), .int .i64 n, .string s, .string ⟨#[]⟩, .string ⟨#[]⟩, .int .i64 0, .slice none 0 0], .slice Ar nr cr, .string ⟨#[]⟩] w1 fun e w' => e = .returned (.tuple #[.agg #[.int .u8 0, .int .i64 0, .string ⟨#[]⟩], .int .i64 2]) ∧ Below w1.heap.size w1 w' :=
      (value_all 0 (Ev.hLit ⟨k, n, s⟩) [] none 0 0 Ar nr cr r Ev.emp w1 ⟨rfl, rfl⟩ (hdOk_mk C.out.v (by decide) (by decide)) (by decide) (by decide) (C.out.rv.next HN.out.bel) C.out.nr (by decide) (C.out.env.next HN.out.bel)).mono fun e w' hp => ⟨by rw [hp.1, Ev.val_no HQ.out]; rfl, hp.2⟩
    with_reducible refine cc.mono ?_
    clear cc
    rintro e w2 ⟨rfl, hb⟩
    clear l0 l1 l2 l3 l4 l5 l6 l7
    replace HN := hide (HN.out.below hb)
    clear hb
    obtain ⟨w3, hw3⟩ : ∃ x, x = w2.alloc (.cells #[.int .u8 0, .int .i64 0, .string ⟨#[]⟩] 24) := ⟨_, rfl⟩
    have hb : Below w2.heap.size w2 w3 := by rw [hw3]; exact al _ _
    replace HN := hide (HN.out.below hb)
    clear hb
    go_wp2_with fail
    rw [← hw3]
    clear hw3
    with_reducible refine (awake_any w3 (C.out.env.next HN.out.bel)).mono ?_
    rintro e w4 ⟨rfl, hb⟩
    replace HN := hide (HN.out.below hb)
    clear hb
    go_wp2_with fail
    refine H2.out HQ.out _ _ ?_ HN.out.bel
    exact ⟨rfl, rfl, rfl, trivial⟩
set_option linter.unusedVariables false in
set_option maxRecDepth 1000000 in
set_option maxHeartbeats 4000000 in
theorem nu_3 {Q : Exit → Act → World → Prop} {a : Act} {w0 : World} {gv ge gn gl : Nat} (hF : Fr 108 a [(2, .slice Ar nr cr), (3, .pointer (some ⟨gv, 0, none⟩)), (4, .pointer (some ⟨ge, 0, none⟩)), (7, .pointer (some ⟨gn, 0, none⟩)), (8, .pointer (some ⟨gl, 0, none⟩))]) (hN : Nu w w0 gv ge gn gl k n s eh A m c) (C : NuC w d eh A m c ks Ar nr cr r k n s) (hq : Cell.rightB ⟨k, n, s⟩ = true)
    (h : ∀ a' w', Fr 108 a' [(2, .slice Ar nr cr), (3, .pointer (some ⟨gv, 0, none⟩)), (4, .pointer (some ⟨ge, 0, none⟩)), (7, .pointer (some ⟨gn, 0, none⟩)), (8, .pointer (some ⟨gl, 0, none⟩))] → Nu w w' gv ge gn gl k n s eh A m c → Q .normal a' w') : (cL (nu 3)).wp Tryd.prog Q a w0 := by
  conv => arg 2; whnf
  refine wp_seq ?_
  obtain ⟨f, rfl, ⟨s2, s3, s4, s7, s8, _⟩, hfr⟩ := hF.open108
  rw [hfr] at s2 s3 s4 s7 s8
  rw [s2, s3, s4, s7, s8]
  clear hF hfr s2 s3 s4 s7 s8
  have H := hide h
  have HN := hide hN
  replace C := hide C
  have HQ := hide hq
  clear h hN hq
  go_wp2_with fail
  refine wp_loop_ghost (fun g a w' => ∃ j : Nat, 7 ≤ j ∧ j ≤ 13 ∧ g = 13 - j ∧ Fr 108 a [(2, .slice Ar nr cr), (3, .pointer (some ⟨gv, 0, none⟩)), (4, .pointer (some ⟨ge, 0, none⟩)), (7, .pointer (some ⟨gn, 0, none⟩)), (8, .pointer (some ⟨gl, 0, none⟩)), (11, .int .u8 (j : Int))] ∧ Nu w w' gv ge gn gl k n s eh A m c) 6 ?_ ?_
  · refine ⟨7, by omega, by omega, rfl, ?_, HN.out⟩
    exact ⟨rfl, rfl, rfl, rfl, rfl, rfl, rfl, rfl, trivial⟩
  clear HN
  rintro g a w1 ⟨j, hj7, hj, rfl, hF, hN⟩
  have HN := hide hN
  clear hN
  obtain ⟨f, rfl, ⟨s2, s3, s4, s7, s8, s11, _⟩, hfr⟩ := hF.open108
  rw [hfr] at s2 s3 s4 s7 s8 s11
  rw [s2, s3, s4, s7, s8, s11]
  clear hF hfr s2 s3 s4 s7 s8 s11
  by_cases h13 : j = 13
  · subst h13
    go_wp2_with fail
    refine H.out _ _ ?_ HN.out
    exact ⟨rfl, rfl, rfl, rfl, rfl, rfl, rfl, trivial⟩
  · have t1 : decide ((j : Int) ≤ 12) = true := decide_eq_true (by omega)
    have l0 := HN.out.hl.cell 0
    have l1 := HN.out.hl.cell 1
    have l2 := HN.out.hl.cell 2
    have l3 := HN.out.hl.cell 3
    have l4 := HN.out.hl.cell 4
    have l5 := HN.out.hl.cell 5
    have l6 := HN.out.hl.cell 6
    have l7 := HN.out.hl.cell 7
    simp at l0 l1 l2 l3 l4 l5 l6 l7
    have z0 := HN.out.hn.cell 0
    have z1 := HN.out.hn.cell 1
    have z2 := HN.out.hn.cell 2
    have z3 := HN.out.hn.cell 3
    have z4 := HN.out.hn.cell 4
    have z5 := HN.out.hn.cell 5
    have z6 := HN.out.hn.cell 6
    have z7 := HN.out.hn.cell 7
    simp at z0 z1 z2 z3 z4 z5 z6 z7
    obtain ⟨ob, hob⟩ : ∃ ob : UInt8, ob.toNat = j := ⟨UInt8.ofNat j, by rw [UInt8.toNat_ofNat_of_lt' (by show j < 256; omega)]⟩
    have HO := hide hob
    clear hob
    go_wp2_with fail
    have cc : Calls Tryd.prog 9 #[.int .u8 (j : Int), .agg #[.int .u8 1, .int .u8 (k.toNat : Int), .int .i64 n, .string s, .string ⟨#[]⟩, .string ⟨#[]⟩, .int .i64 0, .slice none 0 0], .agg #[.int .u8 1, .int .u8 0, .int .i64 0, .string ⟨#[]⟩, .string ⟨#[]⟩, .string ⟨#[]⟩, .int .i64 0, .slice none 0 0]] w1 fun e w' => ∃ g, e = .returned (.agg #[.int .u8 (j : Int), .int .u8 0, .int .i64 0, .string ⟨#[]⟩, .string ⟨#[]⟩, .string ⟨#[]⟩, .int .i64 0, .slice (some ⟨g, 0, none⟩) 2 2]) ∧ Blk w' g 28 #[.int .u8 1, .int .u8 (k.toNat : Int), .int .i64 n, .string s, .string ⟨#[]⟩, .string ⟨#[]⟩, .int .i64 0, .slice none 0 0, .int .u8 1, .int .u8 0, .int .i64 0, .string ⟨#[]⟩, .string ⟨#[]⟩, .string ⟨#[]⟩, .int .i64 0, .slice none 0 0] ∧ Below w1.heap.size w1 w' := by
      have := op_any ob (Ev.hLit ⟨k, n, s⟩) (Ev.hLit Val.vz) none none 0 0 0 0 w1
      rw [HO.out] at this
      exact this.mono fun e w' ⟨g, he, h1, h2⟩ => ⟨g, he.trans (by unfold exV Ev.hd; simp only; rw [HO.out]; rfl), h1, h2⟩
    with_reducible refine cc.mono ?_
    clear cc
    rintro e w2 ⟨gk, rfl, hk, hb⟩
    clear l0 l1 l2 l3 l4 l5 l6 l7 z0 z1 z2 z3 z4 z5 z6 z7
    replace HN := hide (HN.out.below hb)
    have HK := hide hk
    clear hb hk
    go_wp2_with fail
    have hex : ExK w2 (· < w2.heap.size) 1 (some ⟨gk, 0, none⟩) 2 [.mk (Ev.hLit ⟨k, n, s⟩) [], .mk (Ev.hLit Val.vz) []] := ex_row [It.leaf (Ev.hLit ⟨k, n, s⟩), It.leaf (Ev.hLit Val.vz)] HK.out HK.out.lt (by show 2 * 104 ≤ _; decide) (fun x hx => by
      simp only [List.mem_cons, List.not_mem_nil, or_false] at hx
      rcases hx with rfl | rfl
      · exact ⟨hdOk_mk C.out.v (by decide) (by decide), Nat.le_refl 0, Nat.zero_le _, ExK.nil _ _ _ _⟩
      · exact ⟨(hdOk_mk vOk_vz (by decide) (by decide)), by decide, by decide, ExK.nil _ _ _ _⟩)
    have cc : Calls Tryd.prog 8 #[.agg #[.int .u8 (j : Int), .int .u8 0, .int .i64 0, .string ⟨#[]⟩, .string ⟨#[]⟩, .string ⟨#[]⟩, .int .i64 0, .slice (some ⟨gk, 0, none⟩) 2 2], .slice Ar nr cr, .string ⟨#[]⟩] w2 fun e w' => e = .returned (.tuple #[.int .u8 2, .int .i64 0]) ∧ Below w2.heap.size w2 w' := by
      have := (is_any 1 (Ev.hd ob) _ _ 2 2 Ar nr cr r Ev.emp w2 hex (hdOk_mk vOk_vz (by decide) (by decide)) (by decide) (by decide) (C.out.rv.next HN.out.bel) C.out.nr (by decide) (C.out.env.next HN.out.bel))
      rw [Ev.nul_cmp HQ.out (by rw [HO.out]; exact hj7) (by rw [HO.out]; omega)] at this
      unfold exV Ev.hd at this
      simp only at this
      rw [HO.out] at this
      exact this
    clear hex
    with_reducible refine cc.mono ?_
    clear cc
    rintro e w3 ⟨rfl, hb⟩
    clear HK
    replace HN := hide (HN.out.below hb)
    clear hb
    go_wp2_with fail
    refine ⟨13 - (j + 1), by omega, j + 1, by omega, by omega, rfl, ?_, HN.out⟩
    exact ⟨rfl, rfl, rfl, rfl, rfl, rfl, rfl, by go_num, trivial⟩
end
end Go.Proofs.YticljmgcgjibpaaDoor

/-
  The walk of the law EvalNulls, the rest: it returns true. Conditions: the tables are laid; what is handed in reads as a value, a tree, a row.
-/
namespace Go.Proofs.YticljmgcgjibpaaDoor
open Go.RowKit

section
variable {d : Nat} {eh : Ev.Hd} {A : Option Addr} {m c : Nat} {ks : List Ev.Ex} {Ar : Option Addr} {nr cr : Nat} {r : List Cell.Val} {k : UInt8} {n : Int} {s : ByteArray} {w : World}
def rA : ByteArray := ⟨#[97]⟩
set_option linter.unusedVariables false in
set_option maxRecDepth 1000000 in
set_option maxHeartbeats 4000000 in
theorem nu_4 {Q : Exit → Act → World → Prop} {a : Act} {w0 : World} {gv ge gn gl : Nat} (hF : Fr 108 a [(2, .slice Ar nr cr), (3, .pointer (some ⟨gv, 0, none⟩)), (4, .pointer (some ⟨ge, 0, none⟩)), (7, .pointer (some ⟨gn, 0, none⟩)), (8, .pointer (some ⟨gl, 0, none⟩))]) (hN : Nu w w0 gv ge gn gl k n s eh A m c) (C : NuC w d eh A m c ks Ar nr cr r k n s) (hq : Cell.rightB ⟨k, n, s⟩ = true)
    (h : ∀ a' w' (x : Nat), x = (if k = 0 then 1 else 0) → Fr 108 a' [(2, .slice Ar nr cr), (3, .pointer (some ⟨gv, 0, none⟩)), (4, .pointer (some ⟨ge, 0, none⟩)), (7, .pointer (some ⟨gn, 0, none⟩)), (8, .pointer (some ⟨gl, 0, none⟩)), (14, .int .u8 (x : Int)), (15, .int .i64 0)] → Nu w w' gv ge gn gl k n s eh A m c → Q .normal a' w') : (cL (nu 4)).wp Tryd.prog Q a w0 := by
  conv => arg 2; whnf
  obtain ⟨f, rfl, ⟨s2, s3, s4, s7, s8, _⟩, hfr⟩ := hF.open108
  rw [hfr] at s2 s3 s4 s7 s8
  rw [s2, s3, s4, s7, s8]
  clear hF hfr s2 s3 s4 s7 s8
  have H := hide h
  have HN := hide hN
  replace C := hide C
  clear h hN
  have HQ := hide hq
  clear hq
  have l0 := HN.out.hl.cell 0
  have l1 := HN.out.hl.cell 1
  have l2 := HN.out.hl.cell 2
  have l3 := HN.out.hl.cell 3
  have l4 := HN.out.hl.cell 4
  have l5 := HN.out.hl.cell 5
  have l6 := HN.out.hl.cell 6
  have l7 := HN.out.hl.cell 7
  simp at l0 l1 l2 l3 l4 l5 l6 l7
  obtain ⟨w1, hw1⟩ : ∃ x, x = w0.alloc (.cells #[.int .u8 1, .int .u8 (k.toNat : Int), .int .i64 n, .string s, .string ⟨#[]⟩, .string ⟨#[]⟩, .int .i64 0, .slice none 0 0] 28) := ⟨_, rfl⟩
  have HK : Hid (Blk w1 w0.heap.size 28 #[.int .u8 1, .int .u8 (k.toNat : Int), .int .i64 n, .string s, .string ⟨#[]⟩, .string ⟨#[]⟩, .int .i64 0, .slice none 0 0]) := by rw [hw1]; exact Blk.new _ _ _
  have hb : Below w0.heap.size w0 w1 := by rw [hw1]; exact al _ _
  replace HN := hide (HN.out.below hb)
  clear hb
  obtain ⟨gk, hgk⟩ : ∃ g, g = w0.heap.size := ⟨_, rfl⟩
  rw [← hgk] at HK
  go_wp2_with fail
  rw [← hw1, ← hgk]
  clear l0 l1 l2 l3 l4 l5 l6 l7 hw1 hgk
  have hex : ExK w1 (· < w1.heap.size) 1 (some ⟨gk, 0, none⟩) 1 [.mk (Ev.hLit ⟨k, n, s⟩) []] := ex_row [It.leaf (Ev.hLit ⟨k, n, s⟩)] HK.out HK.out.lt (by show 1 * 104 ≤ _; decide) (fun x hx => by
    simp only [List.mem_cons, List.not_mem_nil, or_false] at hx
    subst hx
    exact ⟨hdOk_mk C.out.v (by decide) (by decide), Nat.le_refl 0, Nat.zero_le _, ExK.nil _ _ _ _⟩)
  obtain ⟨x, hx⟩ : ∃ x : Nat, x = (if k = 0 then 1 else 0) := ⟨_, rfl⟩
  have HX := hide hx
  clear hx
  have cc : Calls Tryd.prog 8 #[.agg #[.int .u8 16, .int .u8 0, .int .i64 0, .string ⟨#[]⟩, .string ⟨#[]⟩, .string ⟨#[]⟩, .int .i64 0, .slice (some ⟨gk, 0, none⟩) 1 1], .slice Ar nr cr, .string ⟨#[]⟩] w1 fun e w' => e = .returned (.tuple #[.int .u8 (x : Int), .int .i64 0]) ∧ Below w1.heap.size w1 w' := by
    have := (is_any 1 (Ev.hd 16) _ _ 1 1 Ar nr cr r Ev.emp w1 hex (hdOk_mk vOk_vz (by decide) (by decide)) (by decide) (by decide) (C.out.rv.next HN.out.bel) C.out.nr (by decide) (C.out.env.next HN.out.bel))
    rw [Ev.nul_is HQ.out] at this
    simp only at this
    rw [← HX.out] at this
    exact this
  clear hex
  with_reducible refine cc.mono ?_
  clear cc
  rintro e w3 ⟨rfl, hb⟩
  clear HK
  replace HN := hide (HN.out.below hb)
  clear hb
  go_wp2_with fail
  refine H.out _ _ x HX.out ?_ HN.out
  exact ⟨rfl, rfl, rfl, rfl, rfl, rfl, rfl, rfl, rfl, trivial⟩
set_option linter.unusedVariables false in
set_option maxRecDepth 1000000 in
set_option maxHeartbeats 4000000 in
theorem nu_5 {Q : Exit → Act → World → Prop} {a : Act} {w0 : World} {gv ge gn gl x : Nat} (hF : Fr 108 a [(2, .slice Ar nr cr), (3, .pointer (some ⟨gv, 0, none⟩)), (4, .pointer (some ⟨ge, 0, none⟩)), (7, .pointer (some ⟨gn, 0, none⟩)), (8, .pointer (some ⟨gl, 0, none⟩)), (14, .int .u8 (x : Int)), (15, .int .i64 0)]) (hN : Nu w w0 gv ge gn gl k n s eh A m c)  (hx : x = (if k = 0 then 1 else 0))
    (h : ∀ a' w', Fr 108 a' [(2, .slice Ar nr cr), (3, .pointer (some ⟨gv, 0, none⟩)), (4, .pointer (some ⟨ge, 0, none⟩)), (7, .pointer (some ⟨gn, 0, none⟩)), (8, .pointer (some ⟨gl, 0, none⟩))] → Nu w w' gv ge gn gl k n s eh A m c → Q .normal a' w') : (cL (nu 5)).wp Tryd.prog Q a w0 := by
  conv => arg 2; whnf
  obtain ⟨f, rfl, ⟨s2, s3, s4, s7, s8, s14, s15, _⟩, hfr⟩ := hF.open108
  rw [hfr] at s2 s3 s4 s7 s8 s14 s15
  rw [s2, s3, s4, s7, s8, s14, s15]
  clear hF hfr s2 s3 s4 s7 s8 s14 s15
  have H := hide h
  have HN := hide hN
  clear h hN
  have v0 := HN.out.hv.cell 0
  have v1 := HN.out.hv.cell 1
  have v2 := HN.out.hv.cell 2
  simp at v0 v1 v2
  by_cases hk : k = 0
  · have tk : ((k.toNat : Int) == 0) = true := by
      rw [hk]; rfl
    rw [if_pos hk] at hx
    subst hx
    clear hk
    go_wp2_with fail
    refine H.out _ _ ?_ HN.out
    exact ⟨rfl, rfl, rfl, rfl, rfl, rfl, rfl, trivial⟩
  · have tk : ((k.toNat : Int) == 0) = false := by
      have : k.toNat ≠ 0 := fun e => hk (UInt8.toNat_inj.1 (by rw [e]; rfl))
      simp; omega
    rw [if_neg hk] at hx
    subst hx
    clear hk
    go_wp2_with fail
    refine H.out _ _ ?_ HN.out
    exact ⟨rfl, rfl, rfl, rfl, rfl, rfl, rfl, trivial⟩
set_option linter.unusedVariables false in
set_option maxRecDepth 1000000 in
set_option maxHeartbeats 4000000 in
theorem nu_6 {Q : Exit → Act → World → Prop} {a : Act} {w0 : World} {gv ge gn gl : Nat} (hF : Fr 108 a [(2, .slice Ar nr cr), (3, .pointer (some ⟨gv, 0, none⟩)), (4, .pointer (some ⟨ge, 0, none⟩)), (7, .pointer (some ⟨gn, 0, none⟩)), (8, .pointer (some ⟨gl, 0, none⟩))]) (hN : Nu w w0 gv ge gn gl k n s eh A m c) (C : NuC w d eh A m c ks Ar nr cr r k n s)
    (h : ∀ a' w' (p : Nat × Nat), p = Ev.is ((Ev.Ex.mk eh ks).val r rA) → Fr 108 a' [(2, .slice Ar nr cr), (3, .pointer (some ⟨gv, 0, none⟩)), (4, .pointer (some ⟨ge, 0, none⟩)), (7, .pointer (some ⟨gn, 0, none⟩)), (8, .pointer (some ⟨gl, 0, none⟩)), (16, .int .u8 (p.1 : Int)), (17, .int .i64 (p.2 : Int))] → Nu w w' gv ge gn gl k n s eh A m c → Q .normal a' w') : (cL (nu 6)).wp Tryd.prog Q a w0 := by
  conv => arg 2; whnf
  obtain ⟨f, rfl, ⟨s2, s3, s4, s7, s8, _⟩, hfr⟩ := hF.open108
  rw [hfr] at s2 s3 s4 s7 s8
  rw [s2, s3, s4, s7, s8]
  clear hF hfr s2 s3 s4 s7 s8
  have H := hide h
  have HN := hide hN
  replace C := hide C
  clear h hN
  have l0 := HN.out.he.cell 0
  have l1 := HN.out.he.cell 1
  have l2 := HN.out.he.cell 2
  have l3 := HN.out.he.cell 3
  have l4 := HN.out.he.cell 4
  have l5 := HN.out.he.cell 5
  have l6 := HN.out.he.cell 6
  have l7 := HN.out.he.cell 7
  simp at l0 l1 l2 l3 l4 l5 l6 l7
  obtain ⟨p, hp⟩ : ∃ p, p = Ev.is ((Ev.Ex.mk eh ks).val r rA) := ⟨_, rfl⟩
  have HP := hide hp
  clear hp
  go_wp2_with fail
  have cc : Calls Tryd.prog 8 #[.agg #[.int .u8 (eh.o.toNat : Int), .int .u8 (eh.v.k.toNat : Int), .int .i64 eh.v.n, .string eh.v.s, .string eh.nm, .string eh.of, .int .i64 eh.n, .slice A m c], .slice Ar nr cr, .string ⟨#[97]⟩] w0 fun e w' => e = .returned (.tuple #[.int .u8 (p.1 : Int), .int .i64 (p.2 : Int)]) ∧ Below w0.heap.size w0 w' := by
    have := (is_any d eh ks A m c Ar nr cr r rA w0 (C.out.ex.next HN.out.bel) C.out.ok C.out.mc C.out.c2 (C.out.rv.next HN.out.bel) C.out.nr (by decide) (C.out.env.next HN.out.bel))
    rw [← HP.out] at this
    exact this
  with_reducible refine cc.mono ?_
  clear cc
  rintro e w3 ⟨rfl, hb⟩
  clear l0 l1 l2 l3 l4 l5 l6 l7
  replace HN := hide (HN.out.below hb)
  clear hb
  go_wp2_with fail
  refine H.out _ _ p HP.out ?_ HN.out
  exact ⟨rfl, rfl, rfl, rfl, rfl, rfl, rfl, rfl, rfl, trivial⟩
set_option linter.unusedVariables false in
set_option maxRecDepth 1000000 in
set_option maxHeartbeats 4000000 in
theorem nu_7 {Q : Exit → Act → World → Prop} {a : Act} {w0 : World} {gv ge gn gl : Nat} {p : Nat × Nat} (hF : Fr 108 a [(2, .slice Ar nr cr), (3, .pointer (some ⟨gv, 0, none⟩)), (4, .pointer (some ⟨ge, 0, none⟩)), (7, .pointer (some ⟨gn, 0, none⟩)), (8, .pointer (some ⟨gl, 0, none⟩)), (16, .int .u8 (p.1 : Int)), (17, .int .i64 (p.2 : Int))]) (hN : Nu w w0 gv ge gn gl k n s eh A m c) (C : NuC w d eh A m c ks Ar nr cr r k n s) (hp : p = Ev.is ((Ev.Ex.mk eh ks).val r rA))
    (h : ∀ a' w' (q : Nat × Nat), q = (if p.2 ≠ 0 then (0, p.2) else (Lg.not_ p.1, 0)) → Fr 108 a' [(16, .int .u8 (p.1 : Int)), (17, .int .i64 (p.2 : Int)), (18, .int .u8 (q.1 : Int)), (19, .int .i64 (q.2 : Int))] → Below w.heap.size w w' → Q .normal a' w') : (cL (nu 7)).wp Tryd.prog Q a w0 := by
  conv => arg 2; whnf
  obtain ⟨f, rfl, ⟨s2, s3, s4, s7, s8, s16, s17, _⟩, hfr⟩ := hF.open108
  rw [hfr] at s2 s3 s4 s7 s8 s16 s17
  rw [s2, s3, s4, s7, s8, s16, s17]
  clear hF hfr s2 s3 s4 s7 s8 s16 s17
  have H := hide h
  have HN := hide hN
  replace C := hide C
  clear h hN
  have l0 := HN.out.he.cell 0
  have l1 := HN.out.he.cell 1
  have l2 := HN.out.he.cell 2
  have l3 := HN.out.he.cell 3
  have l4 := HN.out.he.cell 4
  have l5 := HN.out.he.cell 5
  have l6 := HN.out.he.cell 6
  have l7 := HN.out.he.cell 7
  simp at l0 l1 l2 l3 l4 l5 l6 l7
  obtain ⟨w1, hw1⟩ : ∃ x, x = w0.alloc (.cells #[.int .u8 (eh.o.toNat : Int), .int .u8 (eh.v.k.toNat : Int), .int .i64 eh.v.n, .string eh.v.s, .string eh.nm, .string eh.of, .int .i64 eh.n, .slice A m c] 28) := ⟨_, rfl⟩
  have HK : Hid (Blk w1 w0.heap.size 28 #[.int .u8 (eh.o.toNat : Int), .int .u8 (eh.v.k.toNat : Int), .int .i64 eh.v.n, .string eh.v.s, .string eh.nm, .string eh.of, .int .i64 eh.n, .slice A m c]) := by rw [hw1]; exact Blk.new _ _ _
  have hb : Below w0.heap.size w0 w1 := by rw [hw1]; exact al _ _
  replace HN := hide (HN.out.below hb)
  clear hb
  obtain ⟨gk, hgk⟩ : ∃ g, g = w0.heap.size := ⟨_, rfl⟩
  rw [← hgk] at HK
  have HP := hide hp
  clear hp
  go_wp2_with fail
  rw [← hw1, ← hgk]
  clear l0 l1 l2 l3 l4 l5 l6 l7 hw1 hgk
  have hex : ExK w1 (· < w1.heap.size) (d + 1) (some ⟨gk, 0, none⟩) 1 [.mk eh ks] := ex_row [⟨eh, A, m, c, ks⟩] HK.out HK.out.lt (by show 1 * 104 ≤ _; decide) (fun x hx => by
    simp only [List.mem_cons, List.not_mem_nil, or_false] at hx
    subst hx
    exact ⟨C.out.ok, C.out.mc, C.out.c2, C.out.ex.next HN.out.bel⟩)
  obtain ⟨q, hq⟩ : ∃ q : Nat × Nat, q = (if p.2 ≠ 0 then (0, p.2) else (Lg.not_ p.1, 0)) := ⟨_, rfl⟩
  have HX := hide hq
  clear hq
  have cc : Calls Tryd.prog 8 #[.agg #[.int .u8 15, .int .u8 0, .int .i64 0, .string ⟨#[]⟩, .string ⟨#[]⟩, .string ⟨#[]⟩, .int .i64 0, .slice (some ⟨gk, 0, none⟩) 1 1], .slice Ar nr cr, .string ⟨#[97]⟩] w1 fun e w' => e = .returned (.tuple #[.int .u8 (q.1 : Int), .int .i64 (q.2 : Int)]) ∧ Below w1.heap.size w1 w' := by
    have := (is_any (d + 1) (Ev.hd 15) _ _ 1 1 Ar nr cr r rA w1 hex (hdOk_mk vOk_vz (by decide) (by decide)) (by decide) (by decide) (C.out.rv.next HN.out.bel) C.out.nr (by decide) (C.out.env.next HN.out.bel))
    rw [Ev.nul_not, ← HP.out, ← HX.out] at this
    exact this
  clear hex
  with_reducible refine cc.mono ?_
  clear cc
  rintro e w3 ⟨rfl, hb⟩
  clear HK
  replace HN := hide (HN.out.below hb)
  clear hb
  go_wp2_with fail
  refine H.out _ _ q HX.out ?_ HN.out.bel
  exact ⟨rfl, rfl, rfl, rfl, rfl, rfl, trivial⟩
set_option linter.unusedVariables false in
set_option maxRecDepth 1000000 in
set_option maxHeartbeats 4000000 in
theorem nu_8 {Q : Exit → Act → World → Prop} {a : Act} {w0 : World} {p q : Nat × Nat} (hF : Fr 108 a [(16, .int .u8 (p.1 : Int)), (17, .int .i64 (p.2 : Int)), (18, .int .u8 (q.1 : Int)), (19, .int .i64 (q.2 : Int))]) (hb : Below w.heap.size w w0) (C : NuC w d eh A m c ks Ar nr cr r k n s) (hq : q = (if p.2 ≠ 0 then (0, p.2) else (Lg.not_ p.1, 0)))
    (h : ∀ a' w', Fr 108 a' [(6, .bool true)] → Below w.heap.size w w' → Q .normal a' w') : (cL (nu 8)).wp Tryd.prog Q a w0 := by
  conv => arg 2; whnf
  obtain ⟨f, rfl, ⟨s16, s17, s18, s19, _⟩, hfr⟩ := hF.open108
  rw [hfr] at s16 s17 s18 s19
  rw [s16, s17, s18, s19]
  clear hF hfr s16 s17 s18 s19
  have H := hide h
  have HB := hide hb
  replace C := hide C
  clear h hb
  obtain ⟨p1, p2⟩ := p
  obtain ⟨q1, q2⟩ := q
  simp only at hq
  by_cases h0 : p2 = 0
  · rw [if_neg (by simp [h0])] at hq
    injection hq with hq1 hq2
    subst h0 hq1 hq2
    go_wp2_with fail
    with_reducible refine (vNot_any p1 _ (C.out.env.next HB.out).tnot).mono ?_
    rintro e w3 ⟨rfl, rfl⟩
    go_wp2_with fail
    with_reducible refine (awake_any _ (C.out.env.next HB.out)).mono ?_
    rintro e w4 ⟨rfl, hb⟩
    replace HB := hide (HB.out.trans (hb.mono HB.out.size))
    clear hb
    go_wp2_with fail
    refine H.out _ _ ?_ HB.out
    exact ⟨rfl, rfl, rfl, trivial⟩
  · rw [if_pos h0] at hq
    injection hq with hq1 hq2
    have t1 : ((p2 : Int) != 0) = true := by simp; omega
    subst hq1 hq2
    clear h0
    go_wp2_with fail
    with_reducible refine (awake_any _ (C.out.env.next HB.out)).mono ?_
    rintro e w4 ⟨rfl, hb⟩
    replace HB := hide (HB.out.trans (hb.mono HB.out.size))
    clear hb
    go_wp2_with fail
    refine H.out _ _ ?_ HB.out
    exact ⟨rfl, rfl, rfl, trivial⟩
theorem nue0 : nu 0 = .seq (cL (nu 0)) (nu 1) := by kernel_rfl
theorem nue1 : nu 1 = .seq (cL (nu 1)) (nu 2) := by kernel_rfl
theorem nue2 : nu 2 = .seq (cL (nu 2)) (nu 3) := by kernel_rfl
theorem nue3 : nu 3 = .seq (cL (nu 3)) (nu 4) := by kernel_rfl
theorem nue4 : nu 4 = .seq (cL (nu 4)) (nu 5) := by kernel_rfl
theorem nue5 : nu 5 = .seq (cL (nu 5)) (nu 6) := by kernel_rfl
theorem nue6 : nu 6 = .seq (cL (nu 6)) (nu 7) := by kernel_rfl
theorem nue7 : nu 7 = .seq (cL (nu 7)) (nu 8) := by kernel_rfl
theorem nue8 : nu 8 = .seq (cL (nu 8)) (nu 9) := by kernel_rfl
theorem nue9 : nu 9 = .ret := by kernel_rfl
end
set_option linter.unusedVariables false in
set_option maxRecDepth 1000000 in
set_option maxHeartbeats 4000000 in
theorem evalNulls_any (k : UInt8) (n : Int) (s : ByteArray) (eh : Ev.Hd) (A : Option Addr) (m c d : Nat) (ks : List Ev.Ex) (Ar : Option Addr) (nr cr : Nat) (r : List Cell.Val) (w : World) (hE : Env w) (hs : s.size ≤ maxLen) (hn1 : -9223372036854775808 ≤ n) (hn2 : n ≤ 9223372036854775807) (hex : ExK w (· < w.heap.size) d A m ks) (hok : HdOk eh) (hmc : m ≤ c) (hc2 : c ≤ 9223372036854775807) (hr : Rv w w.heap.size Ar nr r) (hrc : nr ≤ cr) (hcm : cr ≤ maxLen) :
    Calls Tryd.prog 3 #[.agg #[.int .u8 (k.toNat : Int), .int .i64 n, .string s], exV eh A m c, .slice Ar nr cr] w fun e w' => e = .returned (.bool true) ∧ Below w.heap.size w w' := by
  have C : NuC w d eh A m c ks Ar nr cr r k n s := ⟨hex, hok, hmc, hc2, hr, by have : maxLen = 9223372036854775807 := rfl; omega, hE, hs, hn1, hn2⟩
  refine calls_of_wp Tryd.func3 (c := nu 0) (by kernel_rfl) ?_
  unfold exV
  have hF : Fr 108 { tmps := #[.agg #[.int .u8 (k.toNat : Int), .int .i64 n, .string s], .agg #[.int .u8 (eh.o.toNat : Int), .int .u8 (eh.v.k.toNat : Int), .int .i64 eh.v.n, .string eh.v.s, .string eh.nm, .string eh.of, .int .i64 eh.n, .slice A m c], .slice Ar nr cr] ++ Array.replicate (Tryd.f3.ntmps - (#[.agg #[.int .u8 (k.toNat : Int), .int .i64 n, .string s], .agg #[.int .u8 (eh.o.toNat : Int), .int .u8 (eh.v.k.toNat : Int), .int .i64 eh.v.n, .string eh.v.s, .string eh.nm, .string eh.of, .int .i64 eh.n, .slice A m c], .slice Ar nr cr] : Array Value).size) undef, defers := [] } [(0, .agg #[.int .u8 (k.toNat : Int), .int .i64 n, .string s]), (1, .agg #[.int .u8 (eh.o.toNat : Int), .int .u8 (eh.v.k.toNat : Int), .int .i64 eh.v.n, .string eh.v.s, .string eh.nm, .string eh.of, .int .i64 eh.n, .slice A m c]), (2, .slice Ar nr cr)] := by
    rw [Tryd.ntmps3]
    exact ⟨by simp, rfl, by simp, by simp, by simp, trivial⟩
  revert hF
  generalize ({ tmps := #[.agg #[.int .u8 (k.toNat : Int), .int .i64 n, .string s], .agg #[.int .u8 (eh.o.toNat : Int), .int .u8 (eh.v.k.toNat : Int), .int .i64 eh.v.n, .string eh.v.s, .string eh.nm, .string eh.of, .int .i64 eh.n, .slice A m c], .slice Ar nr cr] ++ Array.replicate (Tryd.f3.ntmps - (#[.agg #[.int .u8 (k.toNat : Int), .int .i64 n, .string s], .agg #[.int .u8 (eh.o.toNat : Int), .int .u8 (eh.v.k.toNat : Int), .int .i64 eh.v.n, .string eh.v.s, .string eh.nm, .string eh.of, .int .i64 eh.n, .slice A m c], .slice Ar nr cr] : Array Value).size) undef, defers := [] } : Act) = a
  intro hF
  rw [nue0]
  refine wp_seq (nu_0 hF rfl ?_)
  clear hF
  intro a w1 gv ge hF hb hv he
  rw [nue1]
  refine wp_seq (nu_1 hF hb hv he ?_)
  clear hF hb hv he
  intro a w2 gn gl hF hN
  rw [nue2]
  refine wp_seq (nu_2 hF hN C ?_ ?_)
  rotate_left
  · intro hq a' w' hF hb
    obtain ⟨f, rfl, ⟨s0, _⟩, hfr⟩ := hF.open108
    rw [hfr] at s0
    rw [s0]
    go_ret
    exact ⟨rfl, hb⟩
  clear hF hN
  intro hq a w3 hF hN
  rw [nue3]
  refine wp_seq (nu_3 hF hN C hq ?_)
  clear hF hN
  intro a w4 hF hN
  rw [nue4]
  refine wp_seq (nu_4 hF hN C hq ?_)
  clear hF hN
  intro a w5 x hx hF hN
  rw [nue5]
  refine wp_seq (nu_5 hF hN hx ?_)
  clear hF hN hx
  intro a w6 hF hN
  rw [nue6]
  refine wp_seq (nu_6 hF hN C ?_)
  clear hF hN
  intro a w7 p hp hF hN
  rw [nue7]
  refine wp_seq (nu_7 hF hN C hp ?_)
  clear hF hN hp
  intro a w8 q hq2 hF hb
  rw [nue8]
  refine wp_seq (nu_8 hF hb C hq2 ?_)
  clear hF hb
  intro a w9 hF hb
  rw [nue9]
  refine wp_ret ?_
  obtain ⟨f, rfl, ⟨s0, _⟩, hfr⟩ := hF.open108
  rw [hfr] at s0
  rw [s0]
  go_ret
  exact ⟨rfl, hb⟩
end Go.Proofs.YticljmgcgjibpaaDoor
