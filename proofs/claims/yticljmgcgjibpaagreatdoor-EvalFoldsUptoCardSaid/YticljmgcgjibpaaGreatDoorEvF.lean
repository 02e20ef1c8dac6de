/-
  The walks of eval.Is, count, first and gather. Conditions: what is read reads as a list; the tables are laid.
-/
import Derived.Test.YticljmgcgjibpaaGreatDoorEvE
namespace Go.Proofs.YticljmgcgjibpaaGreatDoor
open Go.RowKit

namespace Ev
/-- Put together, one after the other. -/
def gatL (f : V → V → V × Nat) (s : V) : List V → V × Nat
  | [] => (s, 0)
  | v :: l => if (f s v).2 ≠ 0 then (Val.vz, (f s v).2) else gatL f (f s v).1 l
def gat (f : V → V → V × Nat) : List V → V × Nat
  | [] => (Val.vz, 0)
  | v :: l => gatL f v l
theorem gatL_app (f : V → V → V × Nat) : ∀ (a b : List V) (s t : V), gatL f s a = (t, 0) → gatL f s (a ++ b) = gatL f t b := by
  intro a
  induction a with
  | nil =>
    intro b s t h
    simp only [gatL] at h
    injection h with h _
    rw [h]
    rfl
  | cons v a ih =>
    intro b s t h
    have e : ∀ (x : V) (l : List V) (s : V), gatL f s (x :: l) = if (f s x).2 ≠ 0 then (Val.vz, (f s x).2) else gatL f (f s x).1 l := fun _ _ _ => rfl
    rw [List.cons_append, e]
    rw [e] at h
    by_cases h1 : (f s v).2 ≠ 0
    · rw [if_pos h1] at h
      injection h with _ h
      exact absurd h h1
    · rw [if_neg h1] at h ⊢
      exact ih b _ _ h
theorem gatL_snoc {f : V → V → V × Nat} {a : List V} {s t v u : V} (h : gatL f s a = (t, 0)) (hf : f t v = (u, 0)) : gatL f s (a ++ [v]) = (u, 0) := by
  rw [gatL_app f a [v] s t h]
  simp [gatL, hf]
theorem gatL_stop {f : V → V → V × Nat} {a b : List V} {s t v u : V} {e : Nat} (h : gatL f s a = (t, 0)) (hf : f t v = (u, e)) (he : e ≠ 0) : gatL f s (a ++ v :: b) = (Val.vz, e) := by
  rw [gatL_app f a (v :: b) s t h]
  simp [gatL, hf, he]
/-- The other one, if it is to this side. -/
def pickB (side : Int) (a b : V) : V := if ordV b a = side then b else a
end Ev
theorem is_mk (p : Nat × Nat) : truV p = .tuple #[.int .u8 ((p.1 : Nat) : Int), .int .i64 ((p.2 : Nat) : Int)] := rfl
set_option linter.unusedVariables false in
set_option maxRecDepth 1000000 in
set_option maxHeartbeats 4000000 in
theorem is_any (d : Nat) (h : Ev.Hd) (ks : List Ev.Ex) (A : Option Addr) (m c : Nat) (Ar : Option Addr) (nr cr : Nat) (r : List Cell.Val) (role : ByteArray) (w : World) (hex : ExK w (· < w.heap.size) d A m ks) (hok : HdOk h) (hmc : m ≤ c) (hc2 : c ≤ 9223372036854775807) (hr : Rv w w.heap.size Ar nr r) (hnr : nr ≤ 9223372036854775807) (hro : role.size ≤ 9223372036854775807) (hE : Env w) :
    Calls Tryz.prog 9 #[exV h A m c, .slice Ar nr cr, .string role] w fun e w' => e = .returned (truV (Ev.is ((Ev.Ex.mk h ks).val r role))) ∧ Below w.heap.size w w' := by
  have HEx := hide hex
  have HOk := hide hok
  have HR := hide hr
  have HE := hide hE
  obtain ⟨⟨⟨k', n', s'⟩, er⟩, hp⟩ : ∃ p, p = (Ev.Ex.mk h ks).val r role := ⟨_, rfl⟩
  have HP := hide hp
  rw [← hp]
  clear hex hok hr hE hp
  obtain ⟨o, ⟨k, n, s⟩, nm, of, N⟩ := h
  unfold exV
  simp only
  obtain ⟨w1, hw1⟩ : ∃ w1, w1 = w.alloc (.cells #[.int .u8 (o.toNat : Int), .int .u8 (k.toNat : Int), .int .i64 n, .string s, .string nm, .string of, .int .i64 N, .slice A m c] 28) := ⟨_, rfl⟩
  have HX : Hid (Blk w1 w.heap.size 28 #[.int .u8 (o.toNat : Int), .int .u8 (k.toNat : Int), .int .i64 n, .string s, .string nm, .string of, .int .i64 N, .slice A m c]) := by rw [hw1]; exact Blk.new w _ _
  have HB : Hid (Below w.heap.size w w1) := by rw [hw1]; exact (Below.refl _ _).alloc (Nat.le_refl _) _
  have x0 := HX.out.cell 0
  have x1 := HX.out.cell 1
  have x2 := HX.out.cell 2
  have x3 := HX.out.cell 3
  have x4 := HX.out.cell 4
  have x5 := HX.out.cell 5
  have x6 := HX.out.cell 6
  have x7 := HX.out.cell 7
  simp at x0 x1 x2 x3 x4 x5 x6 x7
  go_enter Tryz.func9, Tryz.ntmps9
  go_upto_region 1 with fail
  rw [← hw1]
  clear hw1
  go_wp2_with fail
  have cc := value_all d ⟨o, ⟨k, n, s⟩, nm, of, N⟩ ks A m c Ar nr cr r role w1 (HEx.out.next HB.out) HOk.out hmc hc2 (HR.out.next HB.out) hnr hro (HE.out.next HB.out)
  rw [← HP.out, ansV_mk] at cc
  unfold exV at cc
  simp only at cc
  with_reducible refine cc.mono ?_
  clear cc
  rintro e w2 ⟨rfl, hb2⟩
  obtain ⟨w3, hw3⟩ : ∃ w3, w3 = w2.alloc (.cells #[.int .u8 (k'.toNat : Int), .int .i64 n', .string s'] 25) := ⟨_, rfl⟩
  have hK3 : Blk w3 w2.heap.size 25 #[.int .u8 (k'.toNat : Int), .int .i64 n', .string s'] := by rw [hw3]; exact Blk.new _ _ _
  have hb3 : Below w2.heap.size w2 w3 := by rw [hw3]; exact (Below.refl _ _).alloc (Nat.le_refl _) _
  have HB3 := hide ((HB.out.trans (hb2.mono HB.out.size)).trans (hb3.mono (Nat.le_trans HB.out.size hb2.size)))
  clear hb2 hb3 x0 x1 x2 x3 x4 x5 x6 x7
  go_upto_region 2 with fail
  rw [← hw3]
  clear hw3
  have u0 := hK3.cell 0
  have u1 := hK3.cell 1
  have u2 := hK3.cell 2
  simp at u0 u1 u2
  clear hK3
  by_cases her : er = 0
  · subst her
    obtain ⟨⟨t, e2⟩, ht⟩ : ∃ p, p = Lg.truth ⟨k', n', s'⟩ := ⟨_, rfl⟩
    have HIs : Hid (Ev.is (⟨k', n', s'⟩, 0) = (t, e2)) := by
      show _ = _
      unfold Ev.is
      rw [if_neg (by simp)]
      exact ht.symm
    have HT := hide ht
    clear ht
    go_wp2_with fail
    have cc := vTruth_any k' n' s' w3
    rw [← HT.out] at cc
    unfold truV at cc
    simp only at cc
    with_reducible refine cc.mono ?_
    clear cc
    rintro e w4 ⟨rfl, hb4⟩
    have HB4 := hide (HB3.out.trans (hb4.mono HB3.out.size))
    clear hb4 u0 u1 u2
    by_cases he2 : e2 = 0
    · subst he2
      go_wp2_with fail
      go_ret2
      exact ⟨by rw [HIs.out]; rfl, HB4.out⟩
    · have te : ((e2 : Int) != 0) = true := by simp; omega
      have HIs2 : Hid (Ev.is (⟨k', n', s'⟩, 0) = (0, e2)) := by
        show _ = _
        have h1 := HT.out
        have h2 : Lg.truth ⟨k', n', s'⟩ = (0, 270) ∨ (Lg.truth ⟨k', n', s'⟩).2 = 0 := by
          unfold Lg.truth
          repeat' split
          all_goals simp
        rw [HIs.out]
        rw [← h1] at h2
        rcases h2 with h2 | h2
        · injection h2 with h2 _
          rw [h2]
        · exact absurd h2 he2
      clear he2
      go_wp2_with fail
      go_ret2
      exact ⟨by rw [HIs2.out]; rfl, HB4.out⟩
  · have te : ((er : Int) != 0) = true := by simp; omega
    have HIs : Hid (Ev.is (⟨k', n', s'⟩, er) = (0, er)) := by
      show _ = _
      unfold Ev.is
      rw [if_pos her]
    clear her
    go_wp2_with fail
    go_ret2
    exact ⟨by rw [HIs.out]; rfl, HB3.out⟩
/-- A number as a value. -/
def intV (n : Int) : Cell.Val := ⟨2, n, ⟨#[]⟩⟩
theorem results_one {fn : Func} {p : Tmp} {tmps : Array Value} {w : World} {g : Nat} {k n s : Value} (h : fn.results = #[.cell p 25]) (hk : Blk w g 25 #[k, n, s]) (hp : tmps.getD p undef = .pointer (some ⟨g, 0, none⟩)) :
    (results fn tmps).run Tryz.prog w = .ok (.agg #[k, n, s]) w := by
  have r0 := hk.cell 0
  have r1 := hk.cell 1
  have r2 := hk.cell 2
  simp at r0 r1 r2
  have hp' : tmps[p]?.getD undef = .pointer (some ⟨g, 0, none⟩) := by simpa using hp
  simp [results, h, hp', go_sem, r0, r1, r2]
set_option linter.unusedVariables false in
set_option maxRecDepth 1000000 in
set_option maxHeartbeats 4000000 in
theorem count_any (n : Int) (w : World) : Calls Tryz.prog 37 #[.int .i64 n] w fun e w' => e = .returned (valV (intV n)) ∧ Below w.heap.size w w' := by
  go_enter Tryz.func37, Tryz.ntmps37
  go_wp2_with fail
  exact bodyPost_ret (v := .agg #[.int .u8 2, .int .i64 n, .string ⟨#[]⟩]) (results_one rfl (Blk.new _ _ _) rfl) rfl ⟨rfl, (Below.refl _ _).alloc (Nat.le_refl _) _⟩
set_option linter.unusedVariables false in
set_option maxRecDepth 1000000 in
set_option maxHeartbeats 4000000 in
theorem num_any (n : Int) (w : World) : Calls Tryz.prog 36 #[.int .i64 n] w fun e w' => e = .returned (valV (intV n)) ∧ Below w.heap.size w w' := by
  go_enter Tryz.func36, Tryz.ntmps36
  go_wp2_with fail
  exact bodyPost_ret (v := .agg #[.int .u8 2, .int .i64 n, .string ⟨#[]⟩]) (results_one rfl (Blk.new _ _ _) rfl) rfl ⟨rfl, (Below.refl _ _).alloc (Nat.le_refl _) _⟩
set_option linter.unusedVariables false in
set_option maxRecDepth 1000000 in
set_option maxHeartbeats 4000000 in
theorem first_any (side : Int) (w : World) : Calls Tryz.prog 40 #[.int .i64 side] w fun e w' => ∃ g, e = .returned (.func (.func 77) #[] #[.pointer (some ⟨g, 0, none⟩)]) ∧ Blk w' g 3 #[.int .i64 side] ∧ Below w.heap.size w w' := by
  go_enter Tryz.func40, Tryz.ntmps40
  go_wp2_with fail
  go_ret
  exact ⟨_, rfl, Blk.new _ _ _, (Below.refl _ _).alloc (Nat.le_refl _) _⟩
set_option linter.unusedVariables false in
set_option maxRecDepth 1000000 in
set_option maxHeartbeats 4000000 in
theorem first1_any (side : Int) (gs : Nat) (x y : Cell.Val) (w : World) (hg : Blk w gs 3 #[.int .i64 side]) (hx : vOk x) (hy : vOk y) :
    Calls Tryz.prog 77 #[valV x, valV y, .pointer (some ⟨gs, 0, none⟩)] w fun e w' => e = .returned (ansV (Ev.pickB side x y, 0)) ∧ Below w.heap.size w w' := by
  obtain ⟨k1, n1, s1⟩ := x
  obtain ⟨k2, n2, s2⟩ := y
  have hgl := hg.lt
  have g0 := hg.cell 0
  simp at g0
  clear hx hy
  unfold valV
  simp only
  obtain ⟨w1, hw1⟩ : ∃ w1, w1 = ((w.alloc (.cells #[.int .u8 (k1.toNat : Int), .int .i64 n1, .string s1] 25)).alloc (.cells #[.int .u8 (k2.toNat : Int), .int .i64 n2, .string s2] 25)).alloc (.cells #[.int .u8 0, .int .i64 0, .string ⟨#[]⟩] 25) := ⟨_, rfl⟩
  have HX : Hid (Blk w1 w.heap.size 25 #[.int .u8 (k1.toNat : Int), .int .i64 n1, .string s1]) := by rw [hw1]; exact ((Blk.new w _ _).alloc _).alloc _
  have HY : Hid (Blk w1 (w.heap.size + 1) 25 #[.int .u8 (k2.toNat : Int), .int .i64 n2, .string s2]) := by
    rw [hw1]
    have := (Blk.new (w.alloc (.cells #[.int .u8 (k1.toNat : Int), .int .i64 n1, .string s1] 25)) 25 #[.int .u8 (k2.toNat : Int), .int .i64 n2, .string s2]).alloc (.cells #[.int .u8 0, .int .i64 0, .string ⟨#[]⟩] 25)
    exact hide (by simpa using this)
  have HZ : Hid (Blk w1 (w.heap.size + 1 + 1) 25 #[.int .u8 0, .int .i64 0, .string ⟨#[]⟩]) := by
    rw [hw1]
    have := Blk.new ((w.alloc (.cells #[.int .u8 (k1.toNat : Int), .int .i64 n1, .string s1] 25)).alloc (.cells #[.int .u8 (k2.toNat : Int), .int .i64 n2, .string s2] 25)) 25 #[.int .u8 0, .int .i64 0, .string ⟨#[]⟩]
    exact hide (by simpa using this)
  have HB : Hid (Below w.heap.size w w1) := by
    rw [hw1]
    exact (((Below.refl _ _).alloc (Nat.le_refl _) _).alloc (by simp) _).alloc (by simp; omega) _
  have b0 := HX.out.cell 0
  have b1 := HX.out.cell 1
  have b2 := HX.out.cell 2
  have c0 := HY.out.cell 0
  have c1 := HY.out.cell 1
  have c2 := HY.out.cell 2
  simp at b0 b1 b2 c0 c1 c2
  have hl0 := HX.out.lt
  have hl1 := HY.out.lt
  have hlg : gs < w1.heap.size := Nat.lt_of_lt_of_le hgl HB.out.size
  have g1 := (HB.out.cell (p := ⟨gs, 0, none⟩) hgl).trans g0
  clear g0
  go_enter Tryz.func77, Tryz.ntmps77
  go_upto_region 1 with fail
  rw [← hw1]
  clear hw1
  obtain ⟨q, hq⟩ : ∃ q, q = ordV ⟨k2, n2, s2⟩ ⟨k1, n1, s1⟩ := ⟨_, rfl⟩
  have HQ := hide hq
  clear hq
  refine wp_region_flow (Up w1) 4 (by kernel_rfl) (by kernel_rfl) (Up.start _) ?_
  simp only [List.take_succ_cons, List.take_zero, List.drop_succ_cons, List.drop_zero]
  refine wpFlow_read ?_ rfl (fun w' hS => ?_) ?_
  rotate_left
  · have c0' := (hS.cell (p := ⟨w.heap.size + 1, 0, none⟩) hl1).trans c0
    have c1' := (hS.cell (p := ⟨w.heap.size + 1, 1, none⟩) hl1).trans c1
    have c2' := (hS.cell (p := ⟨w.heap.size + 1, 2, none⟩) hl1).trans c2
    go_simp
    rfl
  go_frame
  refine wpFlow_read ?_ rfl (fun w' hS => ?_) ?_
  rotate_left
  · have b0' := (hS.cell (p := ⟨w.heap.size, 0, none⟩) hl0).trans b0
    have b1' := (hS.cell (p := ⟨w.heap.size, 1, none⟩) hl0).trans b1
    have b2' := (hS.cell (p := ⟨w.heap.size, 2, none⟩) hl0).trans b2
    go_simp
    rfl
  go_frame
  refine wpFlow_call _ _ _ rfl (fun w' hS => ?_) (fun w' (hS : (Up w1) w') => (((by have := order_any k2 n2 s2 k1 n1 s1 w'; rw [← HQ.out] at this; exact this : Calls _ _ _ w' fun e w'' => e = .returned (.int .i64 q) ∧ Below w'.heap.size w' w'')).mono fun e w2 hp => ⟨hp.1, Up.lives _ _ _ hS hp.2⟩)) ?_
  · go_simp
  go_frame
  refine wpFlow_read ?_ rfl (fun w' hS => ?_) ?_
  rotate_left
  · have g1' := (hS.cell (p := ⟨gs, 0, none⟩) hlg).trans g1
    go_simp
    rfl
  go_frame
  refine wpFlow_nil fun w3 hS => ?_
  have hb : Below w1.heap.size w1 w3 := hS
  have HX3 := hide (HX.out.below hb hl0)
  have HY3 := hide (HY.out.below hb hl1)
  have HZ3 := hide (HZ.out.below hb HZ.out.lt)
  have HB3 := hide (HB.out.trans (hb.mono HB.out.size))
  clear hS hb b0 b1 b2 c0 c1 c2 g1
  by_cases hqs : q = side
  · have tq : (q == side) = true := by simp [hqs]
    have HR : Hid (Ev.pickB side ⟨k1, n1, s1⟩ ⟨k2, n2, s2⟩ = ⟨k2, n2, s2⟩) := by
      show _ = _
      unfold Ev.pickB
      rw [← HQ.out, if_pos hqs]
    have y0 := HY3.out.cell 0
    have y1 := HY3.out.cell 1
    have y2 := HY3.out.cell 2
    simp at y0 y1 y2
    have z0 := HZ3.out.frozen 0
    have q0 := HZ3.out.cell 0
    have z1 := HZ3.out.frozen 1
    have q1 := HZ3.out.cell 1
    have z2 := HZ3.out.frozen 2
    have q2 := HZ3.out.cell 2
    simp at q0 q1 q2
    clear hqs
    go_wp2_with fail
    exact bodyPost_ret (v := .tuple #[.agg #[.int .u8 (k2.toNat : Int), .int .i64 n2, .string s2], .int .i64 0]) (results_val rfl (blk3 HZ3.out _ _ _) rfl rfl) rfl ⟨by rw [HR.out]; rfl, below3 HB3.out (by omega) _ _ _⟩

  · have tq : (q == side) = false := by simp [hqs]
    have HR : Hid (Ev.pickB side ⟨k1, n1, s1⟩ ⟨k2, n2, s2⟩ = ⟨k1, n1, s1⟩) := by
      show _ = _
      unfold Ev.pickB
      rw [← HQ.out, if_neg hqs]
    have y0 := HX3.out.cell 0
    have y1 := HX3.out.cell 1
    have y2 := HX3.out.cell 2
    simp at y0 y1 y2
    have z0 := HZ3.out.frozen 0
    have q0 := HZ3.out.cell 0
    have z1 := HZ3.out.frozen 1
    have q1 := HZ3.out.cell 1
    have z2 := HZ3.out.frozen 2
    have q2 := HZ3.out.cell 2
    simp at q0 q1 q2
    clear hqs
    go_wp2_with fail
    exact bodyPost_ret (v := .tuple #[.agg #[.int .u8 (k1.toNat : Int), .int .i64 n1, .string s1], .int .i64 0]) (results_val rfl (blk3 HZ3.out _ _ _) rfl rfl) rfl ⟨by rw [HR.out]; rfl, below3 HB3.out (by omega) _ _ _⟩

/-- 'l[1:]' of values. -/
theorem run_vFrom (w : World) (b off n c i : Nat) (x : Int) (hx : x = (i : Int)) (hi : i ≤ n) {T : TypeId} (ht : Tryz.prog.underlying T = some (.slice 25)) : (Instr.sliceAt T (.slice (some ⟨b, off, none⟩) n c) (some (.int .i64 x)) none none).run Tryz.prog w = .ok (.slice (some ⟨b, if c = i then off else off + i * 3, none⟩) (n - i) (c - i)) w := by
  subst hx
  have hte : Tryz.prog.elem T = 25 := by unfold Program.elem; rw [ht]
  have ht' : Tryz.prog.underlying T = some (.slice (Tryz.prog.elem T)) := by rw [hte]; exact ht
  have hs : (sizeOf (Tryz.prog.elem T)).run Tryz.prog w = .ok 3 w := by rw [hte]; kernel_rfl
  rw [run_sliceAt_slice (P := Tryz.prog) w _ _ _ _ _ ht', run_slice_l (P := Tryz.prog) w _ _ _ _ ht' _ _ (by omega) (by omega), hs]
  simp only [Result.andThen, sliced, Option.map_some, addr_add, Int.toNat_natCast]
  split <;> rfl
/-- What 'with' of gather does: two values, and the answer. -/
def WiP (w : World) (F : Value) (f : Cell.Val → Cell.Val → Cell.Val × Nat) : Prop :=
  (∃ N, F = .func (.func N) #[] #[] ∧ (∀ (x y : Value) (w : World), (callFunc N #[x, y]).run Tryz.prog w = .ok (.enter N #[x, y]) w) ∧ ∀ w', Below w.heap.size w w' → ∀ x y, vOk x → vOk y → Calls Tryz.prog N #[valV x, valV y] w' fun e w'' => e = .returned (ansV (f x y)) ∧ Below w'.heap.size w' w'') ∨
  (∃ N p, F = .func (.func N) #[] #[.pointer (some ⟨p, 0, none⟩)] ∧ (∀ (x y : Value) (w : World), (callFunc N #[x, y, .pointer (some ⟨p, 0, none⟩)]).run Tryz.prog w = .ok (.enter N #[x, y, .pointer (some ⟨p, 0, none⟩)]) w) ∧ ∀ w', Below w.heap.size w w' → ∀ x y, vOk x → vOk y → Calls Tryz.prog N #[valV x, valV y, .pointer (some ⟨p, 0, none⟩)] w' fun e w'' => e = .returned (ansV (f x y)) ∧ Below w'.heap.size w' w'')
theorem wi_add (w : World) : WiP w (.func (.func 39) #[] #[]) Val.add := .inl ⟨_, rfl, fun x y w => by simp [go_sem], fun w' _ x y hx hy => vAdd_any x.k x.n x.s y.k y.n y.s w' hx.2.1 hx.2.2 hy.2.1 hy.2.2⟩
theorem wi_first (w : World) (side : Int) (g : Nat) (hg : Blk w g 3 #[.int .i64 side]) : WiP w (.func (.func 77) #[] #[.pointer (some ⟨g, 0, none⟩)]) (fun a b => (Ev.pickB side a b, 0)) := .inr ⟨_, g, rfl, fun x y w => by simp [go_sem], fun w' hb x y hx hy => first1_any side g x y w' (hg.below hb hg.lt) hx hy⟩
set_option linter.unusedVariables false in
set_option maxRecDepth 1000000 in
set_option maxHeartbeats 4000000 in
theorem gather0 (N : FuncId) (f : Cell.Val → Cell.Val → Cell.Val × Nat) (A : Option Addr) (n c : Nat) (l : List Cell.Val) (w : World) (hN : ∀ (x y : Value) (w : World), (callFunc N #[x, y]).run Tryz.prog w = .ok (.enter N #[x, y]) w)
    (hC : ∀ w', Below w.heap.size w w' → ∀ x y, vOk x → vOk y → Calls Tryz.prog N #[valV x, valV y] w' fun e w'' => e = .returned (ansV (f x y)) ∧ Below w'.heap.size w' w'') (hf : ∀ x y, vOk x → vOk y → vOk (f x y).1) (hr : Rv w w.heap.size A n l) (hnc : n ≤ c) (hc : c ≤ 9223372036854775807) :
    Calls Tryz.prog 38 #[.slice A n c, .func (.func N) #[] #[]] w fun e w' => e = .returned (ansV (Ev.gat f l)) ∧ Below w.heap.size w w' := by
  have HC := hide hC
  have HF := hide hf
  have HL := hide hr.len
  have HR := hide hr
  clear hC hf
  obtain ⟨w1, hw1⟩ : ∃ w1, w1 = w.alloc (.cells #[.int .u8 0, .int .i64 0, .string ⟨#[]⟩] 25) := ⟨_, rfl⟩
  have HZ : Hid (Blk w1 w.heap.size 25 #[.int .u8 0, .int .i64 0, .string ⟨#[]⟩]) := by rw [hw1]; exact Blk.new _ _ _
  have HB : Hid (Below w.heap.size w w1) := by rw [hw1]; exact (Below.refl _ _).alloc (Nat.le_refl _) _
  go_enter Tryz.func38, Tryz.ntmps38
  go_upto_region 1 with fail
  rw [← hw1]
  clear hw1

  by_cases h0 : n = 0
  · subst h0
    have HG : Hid (Ev.gat f l = (Val.vz, 0)) := by
      show _ = _
      rw [List.eq_nil_of_length_eq_zero HL.out]
      rfl
    have z0 := HZ.out.frozen 0
    have q0 := HZ.out.cell 0
    have z1 := HZ.out.frozen 1
    have q1 := HZ.out.cell 1
    have z2 := HZ.out.frozen 2
    have q2 := HZ.out.cell 2
    simp at q0 q1 q2
    clear hr hN
    go_wp2_with fail
    exact bodyPost_ret (v := .tuple #[.agg #[.int .u8 0, .int .i64 0, .string ⟨#[]⟩], .int .i64 0]) (results_val rfl (blk3 HZ.out _ _ _) rfl rfl) rfl ⟨by rw [HG.out]; rfl, below3 HB.out (Nat.le_refl _) _ _ _⟩

  · have th0 : ((n : Int) == 0) = false := by simp; omega
    obtain ⟨b, off, k1, n1, s1, rfl, hbl, hl0, c0, c1, c2, hok⟩ := hr.at (k := 0) (by omega)
    rw [Nat.zero_mul, Nat.add_zero] at c0 c1 c2
    replace c0 := (HB.out.cell (p := ⟨b, off, none⟩) hbl).trans c0
    replace c1 := (HB.out.cell (p := ⟨b, off + 1, none⟩) hbl).trans c1
    replace c2 := (HB.out.cell (p := ⟨b, off + 2, none⟩) hbl).trans c2
    have HOk := hide hok
    obtain ⟨l', hl'⟩ : ∃ l', l = ⟨k1, n1, s1⟩ :: l' := by
      match l, hl0 with
      | v :: l', h => exact ⟨l', by injection h with h; rw [h]⟩
    have HLl := hide hl'
    have HLn : Hid (l'.length + 1 = n) := by
      show _ = _
      rw [← HL.out, hl']
      rfl
    obtain ⟨w2, hw2⟩ : ∃ w2, w2 = w1.alloc (.cells #[.int .u8 (k1.toNat : Int), .int .i64 n1, .string s1] 25) := ⟨_, rfl⟩
    have HS2 : Hid (Blk w2 w1.heap.size 25 #[.int .u8 (k1.toNat : Int), .int .i64 n1, .string s1]) := by rw [hw2]; exact Blk.new _ _ _
    have hb2 : Below w1.heap.size w1 w2 := by rw [hw2]; exact (Below.refl _ _).alloc (Nat.le_refl _) _
    have HB2 := hide (HB.out.trans (hb2.mono HB.out.size))
    have HZ2 := hide (HZ.out.below hb2 HZ.out.lt)
    have hne : w.heap.size ≠ w1.heap.size := Nat.ne_of_lt HZ.out.lt
    have hle : w.heap.size ≤ w1.heap.size := HB.out.size
    obtain ⟨o1, ho1⟩ : ∃ o1, o1 = (if c = 1 then off else off + 1 * 3) := ⟨_, rfl⟩
    obtain ⟨m, hm⟩ : ∃ m, m = n - 1 := ⟨_, rfl⟩
    obtain ⟨c', hc'⟩ : ∃ c', c' = c - 1 := ⟨_, rfl⟩
    have sl := fun w => run_vFrom w b off n c 1 1 rfl (by omega) (T := 29) Tryz.underlying29
    rw [← ho1, ← hm, ← hc'] at sl
    have HO1 := hide ho1
    have HM := hide hm
    have hn1 : 1 ≤ n := by omega
    have hmn : m ≤ n := by omega
    clear hr h0 hl0 hl' hok hb2 ho1 hm hc'
    go_upto_region 4 with fail
    rw [← hw2]
    clear hw2 c0 c1 c2
    go_wp2_with fail
    clear sl
    go_loopg [21] m (fun gg iv wr => ∃ (j : Nat) (t : Cell.Val), j ≤ m ∧ gg = m - j ∧ iv = .int .i64 (j : Nat) ∧ Hid (Ev.gatL f ⟨k1, n1, s1⟩ (l'.take j) = (t, 0)) ∧ Hid (vOk t) ∧ Blk wr w1.heap.size 25 #[.int .u8 (t.k.toNat : Int), .int .i64 t.n, .string t.s] ∧ Blk wr w.heap.size 25 #[.int .u8 0, .int .i64 0, .string ⟨#[]⟩] ∧ Below w.heap.size w wr)
    case atStart => exact ⟨0, ⟨k1, n1, s1⟩, Nat.zero_le _, rfl, rfl, rfl, HOk, HS2.out, HZ2.out, HB2.out⟩
    case round =>
      obtain ⟨j, ⟨k2, n2, s2⟩, hj, rfl, rfl, HG, HVt, hS, hZ, hbel⟩ := hrel
      obtain ⟨w5, hw5⟩ : ∃ w5, w5 = wr := ⟨_, rfl⟩
      subst hw5
      have HB5 := hide hbel
      have HS5 := hide hS
      have HZ5 := hide hZ
      have hs5 := hbel.size
      have y0 := hS.cell 0
      have y1 := hS.cell 1
      have y2 := hS.cell 2
      simp at y0 y1 y2
      clear hbel hS hZ HOk
      by_cases hlt : j < m
      · obtain ⟨b', off', k3, n3, s3, e, _, hl3, d0, d1, d2, hok3⟩ := HR.out.at (k := j + 1) (by have := HM.out; omega)
        injection e with e
        injection e with e1 e2
        subst e1 e2
        have ho1 : o1 = off + 3 := by rw [HO1.out, if_neg (by have := HM.out; omega)]
        subst ho1
        rw [show off + (j + 1) * 3 = off + 3 + j * 3 by omega] at d0 d1 d2
        replace d0 := (HB5.out.cell (p := ⟨b, off + 3 + j * 3, none⟩) hbl).trans d0
        replace d1 := (HB5.out.cell (p := ⟨b, off + 3 + j * 3 + 1, none⟩) hbl).trans d1
        replace d2 := (HB5.out.cell (p := ⟨b, off + 3 + j * 3 + 2, none⟩) hbl).trans d2
        have HL3 : Hid (l'[j]? = some ⟨k3, n3, s3⟩) := by
          show _ = _
          rw [HLl.out] at hl3
          simpa using hl3
        have HOk3 := hide hok3
        obtain ⟨w6, hw6⟩ : ∃ w6, w6 = w5.alloc (.cells #[.int .u8 (k3.toNat : Int), .int .i64 n3, .string s3] 25) := ⟨_, rfl⟩
        have hK6 : Blk w6 w5.heap.size 25 #[.int .u8 (k3.toNat : Int), .int .i64 n3, .string s3] := by rw [hw6]; exact Blk.new _ _ _
        have hb6 : Below w5.heap.size w5 w6 := by rw [hw6]; exact (Below.refl _ _).alloc (Nat.le_refl _) _
        have HB56 := hide hb6
        have hS6 := HS5.out.below hb6 HS5.out.lt
        clear hl3 hok3 hb6 y0 y1 y2
        go_upto_region 7 with fail
        rw [← hw6]
        clear hw6 d0 d1 d2
        have v0 := hK6.cell 0
        have v1 := hK6.cell 1
        have v2 := hK6.cell 2
        have y0 := hS6.cell 0
        have y1 := hS6.cell 1
        have y2 := hS6.cell 2
        simp at v0 v1 v2 y0 y1 y2
        clear hK6 hS6
        obtain ⟨⟨⟨k', n', s'⟩, er⟩, hp⟩ : ∃ p, p = f ⟨k2, n2, s2⟩ ⟨k3, n3, s3⟩ := ⟨_, rfl⟩
        have HP := hide hp
        have hvo := HF.out _ _ HVt.out HOk3.out
        rw [← hp] at hvo
        have HVo := hide hvo
        clear hp hvo
        go_wp2_with fail
        have cc := HC.out w6 (HB5.out.trans (HB56.out.mono hs5)) ⟨k2, n2, s2⟩ ⟨k3, n3, s3⟩ HVt.out HOk3.out
        rw [← HP.out, ansV_mk] at cc
        unfold valV at cc
        simp only at cc
        with_reducible refine cc.mono ?_
        clear cc
        rintro e w7 ⟨rfl, hb7⟩
        have HB57 := hide (HB56.out.trans (hb7.mono HB56.out.size))
        clear hb7 v0 v1 v2 y0 y1 y2
        obtain ⟨w8, hw8⟩ : ∃ w8, w8 = w7.alloc (.cells #[.int .u8 (k'.toNat : Int), .int .i64 n', .string s'] 25) := ⟨_, rfl⟩
        have hK8 : Blk w8 w7.heap.size 25 #[.int .u8 (k'.toNat : Int), .int .i64 n', .string s'] := by rw [hw8]; exact Blk.new _ _ _
        have hb8 : Below w7.heap.size w7 w8 := by rw [hw8]; exact (Below.refl _ _).alloc (Nat.le_refl _) _
        have HB58 := hide (HB57.out.trans (hb8.mono HB57.out.size))
        have HB8 := hide (HB5.out.trans (HB58.out.mono hs5))
        have HS8 := hide (HS5.out.below HB58.out HS5.out.lt)
        have HZ8 := hide (HZ5.out.below HB58.out HZ5.out.lt)
        clear hb8
        go_upto_region 8 with fail
        rw [← hw8]
        clear hw8
        have u0 := hK8.cell 0
        have u1 := hK8.cell 1
        have u2 := hK8.cell 2
        simp at u0 u1 u2
        clear hK8
        by_cases her : er = 0
        · subst her
          have HG2 : Hid (Ev.gatL f ⟨k1, n1, s1⟩ (l'.take (j + 1)) = (⟨k', n', s'⟩, 0)) := by
            show _ = _
            rw [List.take_add_one, HL3.out]
            exact Ev.gatL_snoc HG.out HP.out.symm
          have f0 := HS8.out.frozen 0
          have f1 := HS8.out.frozen 1
          have f2 := HS8.out.frozen 2
          have p0 := HS8.out.cell 0
          have p1 := HS8.out.cell 1
          have p2 := HS8.out.cell 2
          simp at p0 p1 p2
          go_wp2_with fail
          go_roundg (m - (j + 1))
          case measure => omega
          case rel => exact ⟨j + 1, ⟨k', n', s'⟩, by omega, rfl, by go_num, HG2, HVo, blk3 HS8.out _ _ _, ((HZ8.out.far hne _).far hne _).far hne _, below3 HB8.out hle _ _ _⟩
        · have te : ((er : Int) != 0) = true := by simp; omega
          have HG2 : Hid (Ev.gat f l = (Val.vz, er)) := by
            show _ = _
            have hjl : j < l'.length := by have := HM.out; have := HLn.out; omega
            have h2 : l' = l'.take j ++ (⟨k3, n3, s3⟩ : Cell.Val) :: l'.drop (j + 1) := by
              have e1 : l'[j] = ⟨k3, n3, s3⟩ := (List.getElem?_eq_some_iff.1 HL3.out).2
              rw [← e1, ← List.drop_eq_getElem_cons hjl, List.take_append_drop]
            have h1 := Ev.gatL_stop (b := l'.drop (j + 1)) HG.out HP.out.symm her
            rw [← h2] at h1
            rw [HLl.out]
            exact h1
          have z0 := HZ8.out.frozen 0
          have q0 := HZ8.out.cell 0
          have z1 := HZ8.out.frozen 1
          have q1 := HZ8.out.cell 1
          have z2 := HZ8.out.frozen 2
          have q2 := HZ8.out.cell 2
          simp at q0 q1 q2
          clear her
          go_wp2_with fail
          exact bodyPost_ret (v := .tuple #[.agg #[.int .u8 0, .int .i64 0, .string ⟨#[]⟩], .int .i64 (er : Int)]) (results_val rfl (blk3 HZ8.out _ _ _) rfl rfl) rfl ⟨by rw [HG2.out]; rfl, below3 HB8.out (Nat.le_refl _) _ _ _⟩

      · obtain rfl : j = m := by omega
        have HG2 : Hid (Ev.gat f l = (⟨k2, n2, s2⟩, 0)) := by
          show _ = _
          have h1 := HG.out
          rw [List.take_of_length_le (l := l') (i := j) (by have := HM.out; have := HLn.out; omega)] at h1
          rw [HLl.out]
          exact h1
        have z0 := HZ5.out.frozen 0
        have q0 := HZ5.out.cell 0
        have z1 := HZ5.out.frozen 1
        have q1 := HZ5.out.cell 1
        have z2 := HZ5.out.frozen 2
        have q2 := HZ5.out.cell 2
        simp at q0 q1 q2
        go_wp2_with fail
        exact bodyPost_ret (v := .tuple #[.agg #[.int .u8 (k2.toNat : Int), .int .i64 n2, .string s2], .int .i64 0]) (results_val rfl (blk3 HZ5.out _ _ _) rfl rfl) rfl ⟨by rw [HG2.out]; rfl, below3 HB5.out (Nat.le_refl _) _ _ _⟩

set_option linter.unusedVariables false in
set_option maxRecDepth 1000000 in
set_option maxHeartbeats 4000000 in
theorem gather1 (N : FuncId) (p : Nat) (f : Cell.Val → Cell.Val → Cell.Val × Nat) (A : Option Addr) (n c : Nat) (l : List Cell.Val) (w : World) (hN : ∀ (x y : Value) (w : World), (callFunc N #[x, y, .pointer (some ⟨p, 0, none⟩)]).run Tryz.prog w = .ok (.enter N #[x, y, .pointer (some ⟨p, 0, none⟩)]) w)
    (hC : ∀ w', Below w.heap.size w w' → ∀ x y, vOk x → vOk y → Calls Tryz.prog N #[valV x, valV y, .pointer (some ⟨p, 0, none⟩)] w' fun e w'' => e = .returned (ansV (f x y)) ∧ Below w'.heap.size w' w'') (hf : ∀ x y, vOk x → vOk y → vOk (f x y).1) (hr : Rv w w.heap.size A n l) (hnc : n ≤ c) (hc : c ≤ 9223372036854775807) :
    Calls Tryz.prog 38 #[.slice A n c, .func (.func N) #[] #[.pointer (some ⟨p, 0, none⟩)]] w fun e w' => e = .returned (ansV (Ev.gat f l)) ∧ Below w.heap.size w w' := by
  have HC := hide hC
  have HF := hide hf
  have HL := hide hr.len
  have HR := hide hr
  clear hC hf
  obtain ⟨w1, hw1⟩ : ∃ w1, w1 = w.alloc (.cells #[.int .u8 0, .int .i64 0, .string ⟨#[]⟩] 25) := ⟨_, rfl⟩
  have HZ : Hid (Blk w1 w.heap.size 25 #[.int .u8 0, .int .i64 0, .string ⟨#[]⟩]) := by rw [hw1]; exact Blk.new _ _ _
  have HB : Hid (Below w.heap.size w w1) := by rw [hw1]; exact (Below.refl _ _).alloc (Nat.le_refl _) _
  go_enter Tryz.func38, Tryz.ntmps38
  go_upto_region 1 with fail
  rw [← hw1]
  clear hw1

  by_cases h0 : n = 0
  · subst h0
    have HG : Hid (Ev.gat f l = (Val.vz, 0)) := by
      show _ = _
      rw [List.eq_nil_of_length_eq_zero HL.out]
      rfl
    have z0 := HZ.out.frozen 0
    have q0 := HZ.out.cell 0
    have z1 := HZ.out.frozen 1
    have q1 := HZ.out.cell 1
    have z2 := HZ.out.frozen 2
    have q2 := HZ.out.cell 2
    simp at q0 q1 q2
    clear hr hN
    go_wp2_with fail
    exact bodyPost_ret (v := .tuple #[.agg #[.int .u8 0, .int .i64 0, .string ⟨#[]⟩], .int .i64 0]) (results_val rfl (blk3 HZ.out _ _ _) rfl rfl) rfl ⟨by rw [HG.out]; rfl, below3 HB.out (Nat.le_refl _) _ _ _⟩

  · have th0 : ((n : Int) == 0) = false := by simp; omega
    obtain ⟨b, off, k1, n1, s1, rfl, hbl, hl0, c0, c1, c2, hok⟩ := hr.at (k := 0) (by omega)
    rw [Nat.zero_mul, Nat.add_zero] at c0 c1 c2
    replace c0 := (HB.out.cell (p := ⟨b, off, none⟩) hbl).trans c0
    replace c1 := (HB.out.cell (p := ⟨b, off + 1, none⟩) hbl).trans c1
    replace c2 := (HB.out.cell (p := ⟨b, off + 2, none⟩) hbl).trans c2
    have HOk := hide hok
    obtain ⟨l', hl'⟩ : ∃ l', l = ⟨k1, n1, s1⟩ :: l' := by
      match l, hl0 with
      | v :: l', h => exact ⟨l', by injection h with h; rw [h]⟩
    have HLl := hide hl'
    have HLn : Hid (l'.length + 1 = n) := by
      show _ = _
      rw [← HL.out, hl']
      rfl
    obtain ⟨w2, hw2⟩ : ∃ w2, w2 = w1.alloc (.cells #[.int .u8 (k1.toNat : Int), .int .i64 n1, .string s1] 25) := ⟨_, rfl⟩
    have HS2 : Hid (Blk w2 w1.heap.size 25 #[.int .u8 (k1.toNat : Int), .int .i64 n1, .string s1]) := by rw [hw2]; exact Blk.new _ _ _
    have hb2 : Below w1.heap.size w1 w2 := by rw [hw2]; exact (Below.refl _ _).alloc (Nat.le_refl _) _
    have HB2 := hide (HB.out.trans (hb2.mono HB.out.size))
    have HZ2 := hide (HZ.out.below hb2 HZ.out.lt)
    have hne : w.heap.size ≠ w1.heap.size := Nat.ne_of_lt HZ.out.lt
    have hle : w.heap.size ≤ w1.heap.size := HB.out.size
    obtain ⟨o1, ho1⟩ : ∃ o1, o1 = (if c = 1 then off else off + 1 * 3) := ⟨_, rfl⟩
    obtain ⟨m, hm⟩ : ∃ m, m = n - 1 := ⟨_, rfl⟩
    obtain ⟨c', hc'⟩ : ∃ c', c' = c - 1 := ⟨_, rfl⟩
    have sl := fun w => run_vFrom w b off n c 1 1 rfl (by omega) (T := 29) Tryz.underlying29
    rw [← ho1, ← hm, ← hc'] at sl
    have HO1 := hide ho1
    have HM := hide hm
    have hn1 : 1 ≤ n := by omega
    have hmn : m ≤ n := by omega
    clear hr h0 hl0 hl' hok hb2 ho1 hm hc'
    go_upto_region 4 with fail
    rw [← hw2]
    clear hw2 c0 c1 c2
    go_wp2_with fail
    clear sl
    go_loopg [21] m (fun gg iv wr => ∃ (j : Nat) (t : Cell.Val), j ≤ m ∧ gg = m - j ∧ iv = .int .i64 (j : Nat) ∧ Hid (Ev.gatL f ⟨k1, n1, s1⟩ (l'.take j) = (t, 0)) ∧ Hid (vOk t) ∧ Blk wr w1.heap.size 25 #[.int .u8 (t.k.toNat : Int), .int .i64 t.n, .string t.s] ∧ Blk wr w.heap.size 25 #[.int .u8 0, .int .i64 0, .string ⟨#[]⟩] ∧ Below w.heap.size w wr)
    case atStart => exact ⟨0, ⟨k1, n1, s1⟩, Nat.zero_le _, rfl, rfl, rfl, HOk, HS2.out, HZ2.out, HB2.out⟩
    case round =>
      obtain ⟨j, ⟨k2, n2, s2⟩, hj, rfl, rfl, HG, HVt, hS, hZ, hbel⟩ := hrel
      obtain ⟨w5, hw5⟩ : ∃ w5, w5 = wr := ⟨_, rfl⟩
      subst hw5
      have HB5 := hide hbel
      have HS5 := hide hS
      have HZ5 := hide hZ
      have hs5 := hbel.size
      have y0 := hS.cell 0
      have y1 := hS.cell 1
      have y2 := hS.cell 2
      simp at y0 y1 y2
      clear hbel hS hZ HOk
      by_cases hlt : j < m
      · obtain ⟨b', off', k3, n3, s3, e, _, hl3, d0, d1, d2, hok3⟩ := HR.out.at (k := j + 1) (by have := HM.out; omega)
        injection e with e
        injection e with e1 e2
        subst e1 e2
        have ho1 : o1 = off + 3 := by rw [HO1.out, if_neg (by have := HM.out; omega)]
        subst ho1
        rw [show off + (j + 1) * 3 = off + 3 + j * 3 by omega] at d0 d1 d2
        replace d0 := (HB5.out.cell (p := ⟨b, off + 3 + j * 3, none⟩) hbl).trans d0
        replace d1 := (HB5.out.cell (p := ⟨b, off + 3 + j * 3 + 1, none⟩) hbl).trans d1
        replace d2 := (HB5.out.cell (p := ⟨b, off + 3 + j * 3 + 2, none⟩) hbl).trans d2
        have HL3 : Hid (l'[j]? = some ⟨k3, n3, s3⟩) := by
          show _ = _
          rw [HLl.out] at hl3
          simpa using hl3
        have HOk3 := hide hok3
        obtain ⟨w6, hw6⟩ : ∃ w6, w6 = w5.alloc (.cells #[.int .u8 (k3.toNat : Int), .int .i64 n3, .string s3] 25) := ⟨_, rfl⟩
        have hK6 : Blk w6 w5.heap.size 25 #[.int .u8 (k3.toNat : Int), .int .i64 n3, .string s3] := by rw [hw6]; exact Blk.new _ _ _
        have hb6 : Below w5.heap.size w5 w6 := by rw [hw6]; exact (Below.refl _ _).alloc (Nat.le_refl _) _
        have HB56 := hide hb6
        have hS6 := HS5.out.below hb6 HS5.out.lt
        clear hl3 hok3 hb6 y0 y1 y2
        go_upto_region 7 with fail
        rw [← hw6]
        clear hw6 d0 d1 d2
        have v0 := hK6.cell 0
        have v1 := hK6.cell 1
        have v2 := hK6.cell 2
        have y0 := hS6.cell 0
        have y1 := hS6.cell 1
        have y2 := hS6.cell 2
        simp at v0 v1 v2 y0 y1 y2
        clear hK6 hS6
        obtain ⟨⟨⟨k', n', s'⟩, er⟩, hp⟩ : ∃ p, p = f ⟨k2, n2, s2⟩ ⟨k3, n3, s3⟩ := ⟨_, rfl⟩
        have HP := hide hp
        have hvo := HF.out _ _ HVt.out HOk3.out
        rw [← hp] at hvo
        have HVo := hide hvo
        clear hp hvo
        go_wp2_with fail
        have cc := HC.out w6 (HB5.out.trans (HB56.out.mono hs5)) ⟨k2, n2, s2⟩ ⟨k3, n3, s3⟩ HVt.out HOk3.out
        rw [← HP.out, ansV_mk] at cc
        unfold valV at cc
        simp only at cc
        with_reducible refine cc.mono ?_
        clear cc
        rintro e w7 ⟨rfl, hb7⟩
        have HB57 := hide (HB56.out.trans (hb7.mono HB56.out.size))
        clear hb7 v0 v1 v2 y0 y1 y2
        obtain ⟨w8, hw8⟩ : ∃ w8, w8 = w7.alloc (.cells #[.int .u8 (k'.toNat : Int), .int .i64 n', .string s'] 25) := ⟨_, rfl⟩
        have hK8 : Blk w8 w7.heap.size 25 #[.int .u8 (k'.toNat : Int), .int .i64 n', .string s'] := by rw [hw8]; exact Blk.new _ _ _
        have hb8 : Below w7.heap.size w7 w8 := by rw [hw8]; exact (Below.refl _ _).alloc (Nat.le_refl _) _
        have HB58 := hide (HB57.out.trans (hb8.mono HB57.out.size))
        have HB8 := hide (HB5.out.trans (HB58.out.mono hs5))
        have HS8 := hide (HS5.out.below HB58.out HS5.out.lt)
        have HZ8 := hide (HZ5.out.below HB58.out HZ5.out.lt)
        clear hb8
        go_upto_region 8 with fail
        rw [← hw8]
        clear hw8
        have u0 := hK8.cell 0
        have u1 := hK8.cell 1
        have u2 := hK8.cell 2
        simp at u0 u1 u2
        clear hK8
        by_cases her : er = 0
        · subst her
          have HG2 : Hid (Ev.gatL f ⟨k1, n1, s1⟩ (l'.take (j + 1)) = (⟨k', n', s'⟩, 0)) := by
            show _ = _
            rw [List.take_add_one, HL3.out]
            exact Ev.gatL_snoc HG.out HP.out.symm
          have f0 := HS8.out.frozen 0
          have f1 := HS8.out.frozen 1
          have f2 := HS8.out.frozen 2
          have p0 := HS8.out.cell 0
          have p1 := HS8.out.cell 1
          have p2 := HS8.out.cell 2
          simp at p0 p1 p2
          go_wp2_with fail
          go_roundg (m - (j + 1))
          case measure => omega
          case rel => exact ⟨j + 1, ⟨k', n', s'⟩, by omega, rfl, by go_num, HG2, HVo, blk3 HS8.out _ _ _, ((HZ8.out.far hne _).far hne _).far hne _, below3 HB8.out hle _ _ _⟩
        · have te : ((er : Int) != 0) = true := by simp; omega
          have HG2 : Hid (Ev.gat f l = (Val.vz, er)) := by
            show _ = _
            have hjl : j < l'.length := by have := HM.out; have := HLn.out; omega
            have h2 : l' = l'.take j ++ (⟨k3, n3, s3⟩ : Cell.Val) :: l'.drop (j + 1) := by
              have e1 : l'[j] = ⟨k3, n3, s3⟩ := (List.getElem?_eq_some_iff.1 HL3.out).2
              rw [← e1, ← List.drop_eq_getElem_cons hjl, List.take_append_drop]
            have h1 := Ev.gatL_stop (b := l'.drop (j + 1)) HG.out HP.out.symm her
            rw [← h2] at h1
            rw [HLl.out]
            exact h1
          have z0 := HZ8.out.frozen 0
          have q0 := HZ8.out.cell 0
          have z1 := HZ8.out.frozen 1
          have q1 := HZ8.out.cell 1
          have z2 := HZ8.out.frozen 2
          have q2 := HZ8.out.cell 2
          simp at q0 q1 q2
          clear her
          go_wp2_with fail
          exact bodyPost_ret (v := .tuple #[.agg #[.int .u8 0, .int .i64 0, .string ⟨#[]⟩], .int .i64 (er : Int)]) (results_val rfl (blk3 HZ8.out _ _ _) rfl rfl) rfl ⟨by rw [HG2.out]; rfl, below3 HB8.out (Nat.le_refl _) _ _ _⟩

      · obtain rfl : j = m := by omega
        have HG2 : Hid (Ev.gat f l = (⟨k2, n2, s2⟩, 0)) := by
          show _ = _
          have h1 := HG.out
          rw [List.take_of_length_le (l := l') (i := j) (by have := HM.out; have := HLn.out; omega)] at h1
          rw [HLl.out]
          exact h1
        have z0 := HZ5.out.frozen 0
        have q0 := HZ5.out.cell 0
        have z1 := HZ5.out.frozen 1
        have q1 := HZ5.out.cell 1
        have z2 := HZ5.out.frozen 2
        have q2 := HZ5.out.cell 2
        simp at q0 q1 q2
        go_wp2_with fail
        exact bodyPost_ret (v := .tuple #[.agg #[.int .u8 (k2.toNat : Int), .int .i64 n2, .string s2], .int .i64 0]) (results_val rfl (blk3 HZ5.out _ _ _) rfl rfl) rfl ⟨by rw [HG2.out]; rfl, below3 HB5.out (Nat.le_refl _) _ _ _⟩

theorem gather_any (F : Value) (f : Cell.Val → Cell.Val → Cell.Val × Nat) (A : Option Addr) (n c : Nat) (l : List Cell.Val) (w : World) (hF : WiP w F f) (hf : ∀ x y, vOk x → vOk y → vOk (f x y).1) (hr : Rv w w.heap.size A n l) (hnc : n ≤ c) (hc : c ≤ 9223372036854775807) :
    Calls Tryz.prog 38 #[.slice A n c, F] w fun e w' => e = .returned (ansV (Ev.gat f l)) ∧ Below w.heap.size w w' := by
  rcases hF with ⟨N, rfl, hN, hC⟩ | ⟨N, p, rfl, hN, hC⟩
  · exact gather0 N f A n c l w hN hC hf hr hnc hc
  · exact gather1 N p f A n c l w hN hC hf hr hnc hc
end Go.Proofs.YticljmgcgjibpaaGreatDoor
