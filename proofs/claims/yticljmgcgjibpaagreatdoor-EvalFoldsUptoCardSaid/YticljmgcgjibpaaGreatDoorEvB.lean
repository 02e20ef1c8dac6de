/-
  The walks of what eval.operation makes: a value of values. Conditions: what is read reads as a list; the tables are laid.
-/
import Derived.Test.YticljmgcgjibpaaGreatDoorEvA
import Derived.Test.YticljmgcgjibpaaGreatDoorValJ
import Derived.Test.YticljmgcgjibpaaGreatDoorValG
import Derived.Test.YticljmgcgjibpaaGreatDoorTold
namespace Go.Proofs.YticljmgcgjibpaaGreatDoor
open Go.RowKit

namespace Ev
/-- Truths, from the left. -/
def truthsB : List V → List Nat × Nat
  | [] => ([], 0)
  | v :: l => if (Lg.truth v).2 ≠ 0 then ([], (Lg.truth v).2) else if (truthsB l).2 ≠ 0 then ([], (truthsB l).2) else ((Lg.truth v).1 :: (truthsB l).1, 0)
def lgn (g : List Nat → Nat) (l : List V) : V × Nat := if (truthsB l).2 ≠ 0 then (Val.vz, (truthsB l).2) else (Lg.of_ (g (truthsB l).1), 0)
theorem truths_snoc : ∀ {l : List V} {ts : List Nat} {v : V} {t : Nat}, truthsB l = (ts, 0) → Lg.truth v = (t, 0) → truthsB (l ++ [v]) = (ts ++ [t], 0) := by
  intro l
  induction l with
  | nil =>
    intro ts v t h1 h2
    simp only [truthsB] at h1
    injection h1 with h1 _
    subst h1
    simp [truthsB, h2]
  | cons u l ih =>
    intro ts v t h1 h2
    rw [List.cons_append]
    unfold truthsB at h1 ⊢
    by_cases hu : (Lg.truth u).2 ≠ 0
    · rw [if_pos hu] at h1
      injection h1 with _ h1
      exact absurd h1 hu
    · rw [if_neg hu] at h1 ⊢
      by_cases hl : (truthsB l).2 ≠ 0
      · rw [if_pos hl] at h1
        injection h1 with _ h1
        exact absurd h1 hl
      · rw [if_neg hl] at h1
        injection h1 with h1 _
        have := ih (ts := (truthsB l).1) (v := v) (t := t) (Prod.ext rfl (by simpa using hl)) h2
        rw [this, if_neg (by simp)]
        rw [← h1]
        rfl
theorem truths_stop : ∀ {l r : List V} {ts : List Nat} {v : V} {t e : Nat}, truthsB l = (ts, 0) → Lg.truth v = (t, e) → e ≠ 0 → truthsB (l ++ v :: r) = ([], e) := by
  intro l
  induction l with
  | nil =>
    intro r ts v t e h1 h2 he
    simp [truthsB, h2, he]
  | cons u l ih =>
    intro r ts v t e h1 h2 he
    rw [List.cons_append]
    unfold truthsB at h1 ⊢
    by_cases hu : (Lg.truth u).2 ≠ 0
    · rw [if_pos hu] at h1
      injection h1 with _ h1
      exact absurd h1 hu
    · rw [if_neg hu] at h1 ⊢
      by_cases hl : (truthsB l).2 ≠ 0
      · rw [if_pos hl] at h1
        injection h1 with _ h1
        exact absurd h1 hl
      · rw [ih (r := r) (ts := (truthsB l).1) (v := v) (t := t) (Prod.ext rfl (by simpa using hl)) h2 he]
        rw [if_pos (by simpa using he)]
theorem truths_len : ∀ {l : List V} {ts : List Nat}, truthsB l = (ts, 0) → ts.length = l.length := by
  intro l
  induction l with
  | nil => intro ts h; simp only [truthsB] at h; injection h with h _; rw [← h]; rfl
  | cons v l ih =>
    intro ts h
    unfold truthsB at h
    split at h
    · rename_i h1; injection h with _ h; exact absurd h h1
    · split at h
      · rename_i h1; injection h with _ h; exact absurd h h1
      · rename_i h1 h2
        injection h with h _
        rw [← h, List.length_cons, List.length_cons, ih (ts := (truthsB l).1) (Prod.ext rfl (by simpa using h2))]
theorem truth_lt (v : V) : (Lg.truth v).1 < 3 := by
  unfold Lg.truth
  repeat' split
  all_goals decide
theorem truths_lt : ∀ {l : List V} {ts : List Nat} {e : Nat}, truthsB l = (ts, e) → ∀ t ∈ ts, t < 3 := by
  intro l
  induction l with
  | nil => intro ts e h t ht; simp only [truthsB] at h; injection h with h _; rw [← h] at ht; cases ht
  | cons v l ih =>
    intro ts e h t ht
    unfold truthsB at h
    split at h
    · injection h with h _; rw [← h] at ht; cases ht
    · split at h
      · injection h with h _; rw [← h] at ht; cases ht
      · injection h with h _
        rw [← h, List.mem_cons] at ht
        rcases ht with rfl | ht
        · exact truth_lt v
        · exact ih (ts := (truthsB l).1) (e := (truthsB l).2) rfl t ht
end Ev
/-- A value, as a call's argument. -/
theorem valV_mk (v : Cell.Val) : valV v = .agg #[.int .u8 (v.k.toNat : Int), .int .i64 v.n, .string v.s] := rfl
set_option linter.unusedVariables false in
set_option maxRecDepth 1000000 in
set_option maxHeartbeats 4000000 in
theorem mk_neg (A : Option Addr) (c : Nat) (x : Cell.Val) (w : World) (hr : Rv w w.heap.size A 1 [x]) :
    Calls Tryz.prog 45 #[.slice A 1 c] w fun e w' => e = .returned (ansV (Val.neg x)) ∧ Below w.heap.size w w' := by
  obtain ⟨b, off, k, n, s, rfl, hbl, hx, c0, c1, c2, hok⟩ := hr.at (k := 0) (by omega)
  simp only [List.getElem?_cons_zero, Option.some.injEq] at hx
  subst hx
  rw [Nat.zero_mul, Nat.add_zero] at c0 c1 c2
  have HRg : Hid (-9223372036854775808 ≤ n ∧ n ≤ 9223372036854775807) := hok.2
  clear hr hok
  obtain ⟨w1, hw1⟩ : ∃ w1, w1 = w.alloc (.cells #[.int .u8 0, .int .i64 0, .string ⟨#[]⟩] 25) := ⟨_, rfl⟩
  have HZ : Hid (Blk w1 w.heap.size 25 #[.int .u8 0, .int .i64 0, .string ⟨#[]⟩]) := by rw [hw1]; exact Blk.new _ _ _
  have HB : Hid (Below w.heap.size w w1) := by rw [hw1]; exact (Below.refl _ _).alloc (Nat.le_refl _) _
  go_enter Tryz.func45, Tryz.ntmps45
  go_upto_region 1 with fail
  rw [← hw1]
  clear hw1

  have d0 := (HB.out.cell (p := ⟨b, off, none⟩) hbl).trans c0
  have d1 := (HB.out.cell (p := ⟨b, off + 1, none⟩) hbl).trans c1
  have d2 := (HB.out.cell (p := ⟨b, off + 2, none⟩) hbl).trans c2
  clear c0 c1 c2
  go_wp2_with fail
  with_reducible refine (vNeg_any k n s _ HRg.out.1 HRg.out.2).mono ?_
  rintro e w3 ⟨rfl, hb⟩
  clear d0 d1 d2
  obtain ⟨⟨⟨k', n', s'⟩, e'⟩, hp⟩ : ∃ p, p = Val.neg ⟨k, n, s⟩ := ⟨_, rfl⟩
  rw [← hp, ansV_mk]
  have HP := hide hp
  clear hp
  have HZ3 := hide (HZ.out.below hb HZ.out.lt)
  have HB3 := hide (HB.out.trans (hb.mono HB.out.size))
  have z0 := HZ3.out.frozen 0
  have z1 := HZ3.out.frozen 1
  have z2 := HZ3.out.frozen 2
  have q0 := HZ3.out.cell 0
  have q1 := HZ3.out.cell 1
  have q2 := HZ3.out.cell 2
  simp at q0 q1 q2

  clear hb
  go_wp2_with fail
  exact bodyPost_ret (v := .tuple #[.agg #[.int .u8 (k'.toNat : Int), .int .i64 n', .string s'], .int .i64 (e' : Int)]) (results_val rfl (blk3 HZ3.out _ _ _) rfl rfl) rfl ⟨by rw [← HP.out]; rfl, below3 HB3.out (Nat.le_refl _) _ _ _⟩
set_option linter.unusedVariables false in
set_option maxRecDepth 1000000 in
set_option maxHeartbeats 4000000 in
theorem mk_two0 (N : FuncId) (f : Cell.Val → Cell.Val → Cell.Val × Nat) (A : Option Addr) (c g : Nat) (u v : Cell.Val) (w : World) (hN : ∀ (x y : Value) (w : World), (callFunc N #[x, y]).run Tryz.prog w = .ok (.enter N #[x, y]) w)
    (hC : ∀ w', Below w.heap.size w w' → ∀ x y : Cell.Val, vOk x → vOk y → Calls Tryz.prog N #[valV x, valV y] w' fun e w'' => e = .returned (ansV (f x y)) ∧ Below w'.heap.size w' w'') (hg : Blk w g 57 #[.func (.func N) #[] #[]]) (hr : Rv w w.heap.size A 2 [u, v]) :
    Calls Tryz.prog 44 #[.slice A 2 c, .pointer (some ⟨g, 0, none⟩)] w fun e w' => e = .returned (ansV (f u v)) ∧ Below w.heap.size w w' := by
  obtain ⟨b, off, k1, n1, s1, rfl, hbl, hx, c00, c01, c02, hok1⟩ := hr.at (k := 0) (by omega)
  obtain ⟨b', off', k2, n2, s2, e, _, hy, c10, c11, c12, hok2⟩ := hr.at (k := 1) (by omega)
  injection e with e
  injection e with e1 e2
  subst e1 e2
  simp only [List.getElem?_cons_zero, List.getElem?_cons_succ, Option.some.injEq] at hx hy
  subst hx hy
  have HO1 := hide hok1
  have HO2 := hide hok2
  have HC := hide hC
  have HGl := hide hg.lt
  have e0w := hg.cell 0
  simp at e0w
  clear hr hok1 hok2 hC
  obtain ⟨w1, hw1⟩ : ∃ w1, w1 = w.alloc (.cells #[.int .u8 0, .int .i64 0, .string ⟨#[]⟩] 25) := ⟨_, rfl⟩
  have HZ : Hid (Blk w1 w.heap.size 25 #[.int .u8 0, .int .i64 0, .string ⟨#[]⟩]) := by rw [hw1]; exact Blk.new _ _ _
  have HB : Hid (Below w.heap.size w w1) := by rw [hw1]; exact (Below.refl _ _).alloc (Nat.le_refl _) _
  go_enter Tryz.func44, Tryz.ntmps44
  go_upto_region 1 with fail
  rw [← hw1]
  clear hw1

  have e0 := (HB.out.cell (p := ⟨g, 0, none⟩) HGl.out).trans e0w
  have hg1 : g < w1.heap.size := Nat.lt_of_lt_of_le HGl.out HB.out.size
  have hb1 : b < w1.heap.size := Nat.lt_of_lt_of_le hbl HB.out.size
  have d00 := (HB.out.cell (p := ⟨b, off + 0 * 3, none⟩) hbl).trans c00
  have d01 := (HB.out.cell (p := ⟨b, off + 0 * 3 + 1, none⟩) hbl).trans c01
  have d02 := (HB.out.cell (p := ⟨b, off + 0 * 3 + 2, none⟩) hbl).trans c02
  have d10 := (HB.out.cell (p := ⟨b, off + 1 * 3, none⟩) hbl).trans c10
  have d11 := (HB.out.cell (p := ⟨b, off + 1 * 3 + 1, none⟩) hbl).trans c11
  have d12 := (HB.out.cell (p := ⟨b, off + 1 * 3 + 2, none⟩) hbl).trans c12
  clear e0w c00 c01 c02 c10 c11 c12
  obtain ⟨⟨⟨k', n', s'⟩, e'⟩, hp⟩ : ∃ p, p = f ⟨k1, n1, s1⟩ ⟨k2, n2, s2⟩ := ⟨_, rfl⟩
  have HC2 : Hid (∀ w', Below w.heap.size w w' → Calls Tryz.prog N #[.agg #[.int .u8 (k1.toNat : Int), .int .i64 n1, .string s1], .agg #[.int .u8 (k2.toNat : Int), .int .i64 n2, .string s2]] w' fun e w'' => e = .returned (.tuple #[.agg #[.int .u8 (k'.toNat : Int), .int .i64 n', .string s'], .int .i64 (e' : Int)]) ∧ Below w'.heap.size w' w'') := by
    intro w' hb
    have := HC.out w' hb ⟨k1, n1, s1⟩ ⟨k2, n2, s2⟩ HO1.out HO2.out
    rw [← hp] at this
    exact this
  have HP := hide hp
  clear hp
  refine wp_region_flow (Up w1) 10 (by kernel_rfl) (by kernel_rfl) (Up.start _) ?_
  simp only [List.take_succ_cons, List.take_zero, List.drop_succ_cons, List.drop_zero]
  refine wpFlow_read ?_ rfl (fun w' hS => ?_) ?_
  rotate_left
  · have e0' := (hS.cell (p := ⟨g, 0, none⟩) hg1).trans e0
    go_simp
    rfl
  go_frame
  refine wpFlow_read ?_ rfl (fun w' hS => ?_) ?_
  rotate_left
  · go_simp
    rfl
  go_frame
  refine wpFlow_read ?_ rfl (fun w' hS => ?_) ?_
  rotate_left
  · go_simp
    rfl
  go_frame
  refine wpFlow_read ?_ rfl (fun w' hS => ?_) ?_
  rotate_left
  · have d00' := (hS.cell (p := ⟨b, off + 0 * 3, none⟩) hb1).trans d00
    have d01' := (hS.cell (p := ⟨b, off + 0 * 3 + 1, none⟩) hb1).trans d01
    have d02' := (hS.cell (p := ⟨b, off + 0 * 3 + 2, none⟩) hb1).trans d02
    simp at d00' d01' d02'
    go_simp
    rfl
  go_frame
  refine wpFlow_read ?_ rfl (fun w' hS => ?_) ?_
  rotate_left
  · go_simp
    rfl
  go_frame
  refine wpFlow_read ?_ rfl (fun w' hS => ?_) ?_
  rotate_left
  · go_simp
    rfl
  go_frame
  refine wpFlow_read ?_ rfl (fun w' hS => ?_) ?_
  rotate_left
  · have d10' := (hS.cell (p := ⟨b, off + 1 * 3, none⟩) hb1).trans d10
    have d11' := (hS.cell (p := ⟨b, off + 1 * 3 + 1, none⟩) hb1).trans d11
    have d12' := (hS.cell (p := ⟨b, off + 1 * 3 + 2, none⟩) hb1).trans d12
    simp at d10' d11' d12'
    go_simp
    rfl
  go_frame
  refine wpFlow_call _ _ _ rfl (fun w' hS => ?_) (fun w' (hS : (Up w1) w') => ((HC2.out w' (Below.trans HB.out (Below.mono hS HB.out.size))).mono fun e w2 hp => ⟨hp.1, Up.lives _ _ _ hS hp.2⟩)) ?_
  · go_simp
  go_frame
  refine wpFlow_read ?_ rfl (fun w' hS => ?_) ?_
  rotate_left
  · go_simp
    rfl
  go_frame
  refine wpFlow_read ?_ rfl (fun w' hS => ?_) ?_
  rotate_left
  · go_simp
    rfl
  go_frame
  refine wpFlow_nil fun w3 hS => ?_
  have hb : Below w1.heap.size w1 w3 := hS
  clear hS e0 d00 d01 d02 d10 d11 d12 hN
  have HZ3 := hide (HZ.out.below hb HZ.out.lt)
  have HB3 := hide (HB.out.trans (hb.mono HB.out.size))
  have z0 := HZ3.out.frozen 0
  have z1 := HZ3.out.frozen 1
  have z2 := HZ3.out.frozen 2
  have q0 := HZ3.out.cell 0
  have q1 := HZ3.out.cell 1
  have q2 := HZ3.out.cell 2
  simp at q0 q1 q2

  clear hb
  go_wp2_with fail
  exact bodyPost_ret (v := .tuple #[.agg #[.int .u8 (k'.toNat : Int), .int .i64 n', .string s'], .int .i64 (e' : Int)]) (results_val rfl (blk3 HZ3.out _ _ _) rfl rfl) rfl ⟨by rw [← HP.out]; rfl, below3 HB3.out (Nat.le_refl _) _ _ _⟩
set_option linter.unusedVariables false in
set_option maxRecDepth 1000000 in
set_option maxHeartbeats 4000000 in
theorem mk_two1 (N : FuncId) (p : Nat) (f : Cell.Val → Cell.Val → Cell.Val × Nat) (A : Option Addr) (c g : Nat) (u v : Cell.Val) (w : World) (hN : ∀ (x y : Value) (w : World), (callFunc N #[x, y, .pointer (some ⟨p, 0, none⟩)]).run Tryz.prog w = .ok (.enter N #[x, y, .pointer (some ⟨p, 0, none⟩)]) w)
    (hC : ∀ w', Below w.heap.size w w' → ∀ x y : Cell.Val, vOk x → vOk y → Calls Tryz.prog N #[valV x, valV y, .pointer (some ⟨p, 0, none⟩)] w' fun e w'' => e = .returned (ansV (f x y)) ∧ Below w'.heap.size w' w'') (hg : Blk w g 57 #[.func (.func N) #[] #[.pointer (some ⟨p, 0, none⟩)]]) (hr : Rv w w.heap.size A 2 [u, v]) :
    Calls Tryz.prog 44 #[.slice A 2 c, .pointer (some ⟨g, 0, none⟩)] w fun e w' => e = .returned (ansV (f u v)) ∧ Below w.heap.size w w' := by
  obtain ⟨b, off, k1, n1, s1, rfl, hbl, hx, c00, c01, c02, hok1⟩ := hr.at (k := 0) (by omega)
  obtain ⟨b', off', k2, n2, s2, e, _, hy, c10, c11, c12, hok2⟩ := hr.at (k := 1) (by omega)
  injection e with e
  injection e with e1 e2
  subst e1 e2
  simp only [List.getElem?_cons_zero, List.getElem?_cons_succ, Option.some.injEq] at hx hy
  subst hx hy
  have HO1 := hide hok1
  have HO2 := hide hok2
  have HC := hide hC
  have HGl := hide hg.lt
  have e0w := hg.cell 0
  simp at e0w
  clear hr hok1 hok2 hC
  obtain ⟨w1, hw1⟩ : ∃ w1, w1 = w.alloc (.cells #[.int .u8 0, .int .i64 0, .string ⟨#[]⟩] 25) := ⟨_, rfl⟩
  have HZ : Hid (Blk w1 w.heap.size 25 #[.int .u8 0, .int .i64 0, .string ⟨#[]⟩]) := by rw [hw1]; exact Blk.new _ _ _
  have HB : Hid (Below w.heap.size w w1) := by rw [hw1]; exact (Below.refl _ _).alloc (Nat.le_refl _) _
  go_enter Tryz.func44, Tryz.ntmps44
  go_upto_region 1 with fail
  rw [← hw1]
  clear hw1

  have e0 := (HB.out.cell (p := ⟨g, 0, none⟩) HGl.out).trans e0w
  have hg1 : g < w1.heap.size := Nat.lt_of_lt_of_le HGl.out HB.out.size
  have hb1 : b < w1.heap.size := Nat.lt_of_lt_of_le hbl HB.out.size
  have d00 := (HB.out.cell (p := ⟨b, off + 0 * 3, none⟩) hbl).trans c00
  have d01 := (HB.out.cell (p := ⟨b, off + 0 * 3 + 1, none⟩) hbl).trans c01
  have d02 := (HB.out.cell (p := ⟨b, off + 0 * 3 + 2, none⟩) hbl).trans c02
  have d10 := (HB.out.cell (p := ⟨b, off + 1 * 3, none⟩) hbl).trans c10
  have d11 := (HB.out.cell (p := ⟨b, off + 1 * 3 + 1, none⟩) hbl).trans c11
  have d12 := (HB.out.cell (p := ⟨b, off + 1 * 3 + 2, none⟩) hbl).trans c12
  clear e0w c00 c01 c02 c10 c11 c12
  obtain ⟨⟨⟨k', n', s'⟩, e'⟩, hp⟩ : ∃ p, p = f ⟨k1, n1, s1⟩ ⟨k2, n2, s2⟩ := ⟨_, rfl⟩
  have HC2 : Hid (∀ w', Below w.heap.size w w' → Calls Tryz.prog N #[.agg #[.int .u8 (k1.toNat : Int), .int .i64 n1, .string s1], .agg #[.int .u8 (k2.toNat : Int), .int .i64 n2, .string s2], .pointer (some ⟨p, 0, none⟩)] w' fun e w'' => e = .returned (.tuple #[.agg #[.int .u8 (k'.toNat : Int), .int .i64 n', .string s'], .int .i64 (e' : Int)]) ∧ Below w'.heap.size w' w'') := by
    intro w' hb
    have := HC.out w' hb ⟨k1, n1, s1⟩ ⟨k2, n2, s2⟩ HO1.out HO2.out
    rw [← hp] at this
    exact this
  have HP := hide hp
  clear hp
  refine wp_region_flow (Up w1) 10 (by kernel_rfl) (by kernel_rfl) (Up.start _) ?_
  simp only [List.take_succ_cons, List.take_zero, List.drop_succ_cons, List.drop_zero]
  refine wpFlow_read ?_ rfl (fun w' hS => ?_) ?_
  rotate_left
  · have e0' := (hS.cell (p := ⟨g, 0, none⟩) hg1).trans e0
    go_simp
    rfl
  go_frame
  refine wpFlow_read ?_ rfl (fun w' hS => ?_) ?_
  rotate_left
  · go_simp
    rfl
  go_frame
  refine wpFlow_read ?_ rfl (fun w' hS => ?_) ?_
  rotate_left
  · go_simp
    rfl
  go_frame
  refine wpFlow_read ?_ rfl (fun w' hS => ?_) ?_
  rotate_left
  · have d00' := (hS.cell (p := ⟨b, off + 0 * 3, none⟩) hb1).trans d00
    have d01' := (hS.cell (p := ⟨b, off + 0 * 3 + 1, none⟩) hb1).trans d01
    have d02' := (hS.cell (p := ⟨b, off + 0 * 3 + 2, none⟩) hb1).trans d02
    simp at d00' d01' d02'
    go_simp
    rfl
  go_frame
  refine wpFlow_read ?_ rfl (fun w' hS => ?_) ?_
  rotate_left
  · go_simp
    rfl
  go_frame
  refine wpFlow_read ?_ rfl (fun w' hS => ?_) ?_
  rotate_left
  · go_simp
    rfl
  go_frame
  refine wpFlow_read ?_ rfl (fun w' hS => ?_) ?_
  rotate_left
  · have d10' := (hS.cell (p := ⟨b, off + 1 * 3, none⟩) hb1).trans d10
    have d11' := (hS.cell (p := ⟨b, off + 1 * 3 + 1, none⟩) hb1).trans d11
    have d12' := (hS.cell (p := ⟨b, off + 1 * 3 + 2, none⟩) hb1).trans d12
    simp at d10' d11' d12'
    go_simp
    rfl
  go_frame
  refine wpFlow_call _ _ _ rfl (fun w' hS => ?_) (fun w' (hS : (Up w1) w') => ((HC2.out w' (Below.trans HB.out (Below.mono hS HB.out.size))).mono fun e w2 hp => ⟨hp.1, Up.lives _ _ _ hS hp.2⟩)) ?_
  · go_simp
  go_frame
  refine wpFlow_read ?_ rfl (fun w' hS => ?_) ?_
  rotate_left
  · go_simp
    rfl
  go_frame
  refine wpFlow_read ?_ rfl (fun w' hS => ?_) ?_
  rotate_left
  · go_simp
    rfl
  go_frame
  refine wpFlow_nil fun w3 hS => ?_
  have hb : Below w1.heap.size w1 w3 := hS
  clear hS e0 d00 d01 d02 d10 d11 d12 hN
  have HZ3 := hide (HZ.out.below hb HZ.out.lt)
  have HB3 := hide (HB.out.trans (hb.mono HB.out.size))
  have z0 := HZ3.out.frozen 0
  have z1 := HZ3.out.frozen 1
  have z2 := HZ3.out.frozen 2
  have q0 := HZ3.out.cell 0
  have q1 := HZ3.out.cell 1
  have q2 := HZ3.out.cell 2
  simp at q0 q1 q2

  clear hb
  go_wp2_with fail
  exact bodyPost_ret (v := .tuple #[.agg #[.int .u8 (k'.toNat : Int), .int .i64 n', .string s'], .int .i64 (e' : Int)]) (results_val rfl (blk3 HZ3.out _ _ _) rfl rfl) rfl ⟨by rw [← HP.out]; rfl, below3 HB3.out (Nat.le_refl _) _ _ _⟩
end Go.Proofs.YticljmgcgjibpaaGreatDoor
