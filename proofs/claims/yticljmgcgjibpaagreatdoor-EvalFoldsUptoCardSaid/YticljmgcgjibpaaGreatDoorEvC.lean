/-
  The walks of what eval.operation makes: comparisons, logic, IS NULL. Conditions: what is read reads as a list; the tables are laid.
-/
import Derived.Test.YticljmgcgjibpaaGreatDoorEvB
namespace Go.Proofs.YticljmgcgjibpaaGreatDoor
open Go.RowKit

def tru (ts : List Nat) : List Value := ts.map fun (t : Nat) => Value.int .u8 (t : Int)
/-- A slice that reads as a list of truths. -/
def Rt (w : World) (B : Nat) (A : Option Addr) (n : Nat) (ts : List Nat) : Prop := Rd w B 1 A n (tru ts)
theorem Rt.at {w : World} {B n k t : Nat} {A : Option Addr} {ts : List Nat} (h : Rt w B A n ts) (hk : ts[k]? = some t) : ∃ b off, A = some ⟨b, off, none⟩ ∧ b < B ∧ w.cell? ⟨b, off + k, none⟩ = some (.int .u8 (t : Int)) := by
  have h1 : (tru ts)[k]? = some (.int .u8 (t : Int)) := by unfold tru; rw [List.getElem?_map, hk]; rfl
  have hn : 0 < n := by
    have := h.1
    have hl := (List.getElem?_eq_some_iff.1 h1).1
    omega
  obtain ⟨b, off, e, hb, hc⟩ := h.2 hn
  exact ⟨b, off, e, hb, hc k _ h1⟩
theorem Rt.below {w w' : World} {B C n : Nat} {A : Option Addr} {ts : List Nat} (h : Rt w B A n ts) (hb : Below C w w') (hC : B ≤ C) : Rt w' B A n ts := Rd.below h hb hC
theorem Rt.more {w : World} {B C n : Nat} {A : Option Addr} {ts : List Nat} (h : Rt w B A n ts) (hC : B ≤ C) : Rt w C A n ts := Rd.more h hC
theorem infoTr : (Tryz.prog.info? 36).map (fun i => (i.zero, i.size, i.bytes)) = some (some (.int .u8 0), 1, 1) := by kernel_rfl
theorem tru_len (ts : List Nat) : (tru ts).length = ts.length := by unfold tru; simp
/-- 'out = append(out, t)' of truths. -/
theorem wpList_appTr {ops : Array Oper} {rest : List Oper} {o : Oper} {a : Act} {Q : Exit → Act → World → Prop} {w : World} (hgd : o.guard = none) (s x : Operand)
    (ho : o.op = .call { callee := .builtin .append, args := #[s, x], argTypes := #[73, 73] })
    (lo : Nat) (v : Value) (l : List Nat) (hs : a.eval s = v) (hF : w.ownsRow lo 36 1 v l.length (tru l))
    (g c t : Nat) (hx : a.eval x = .slice (some ⟨g, 0, none⟩) 1 c) (hg : Blk w g 36 #[.int .u8 (t : Int)]) (hm : (l.length + 1) * 1 ≤ 140737488355328) (hlo : lo ≤ w.heap.size)
    (h : ∀ v' w', w'.ownsRow lo 36 1 v' (l ++ [t]).length (tru (l ++ [t])) → Below lo w w' → wpList Tryz.prog ops Q rest (a.put o.dst v') w') : wpList Tryz.prog ops Q (o :: rest) a w := by
  obtain ⟨iC, hiC, hz0, hz1, hz2⟩ := info_parts infoTr
  have hr : Rd w (g + 1) 1 (some ⟨g, 0, none⟩) 1 (tru [t]) := by
    refine ⟨rfl, fun _ => ⟨g, 0, rfl, by omega, fun j z hu => ?_⟩⟩
    have := hg.cell j
    rw [Nat.zero_add, this]
    simpa [tru] using hu
  refine wpList_append_rd w hgd s x _ ho lo 36 iC _ 1 1 Tryz.underlying73 hiC hz0 hz1 hz2 rfl (by omega) v l.length (tru l) hs hF _ _ 1 c _ hx hr (fun u hu => ?_) (by unfold maxLen; omega) hm hlo ?_
  · simp [tru] at hu
    subst hu
    rfl
  intro v3 w3 hown3 hb3 _
  refine h v3 w3 ?_ hb3
  rw [show tru (l ++ [t]) = tru l ++ tru [t] by simp [tru], List.length_append]
  exact hown3
theorem ansV_of (a e : Nat) : ansV (Lg.of_ a, e) = .tuple #[valV (Lg.of_ a), .int .i64 (e : Int)] := rfl
set_option linter.unusedVariables false in
set_option maxRecDepth 1000000 in
set_option maxHeartbeats 4000000 in
theorem mk_cmp (op gop : Nat) (x y : Cell.Val) (w : World) (hg : Blk w gop 22 #[.int .u8 (op : Int)]) (hx : vOk x) (hy : vOk y) :
    Calls Tryz.prog 49 #[valV x, valV y, .pointer (some ⟨gop, 0, none⟩)] w fun e w' => e = .returned (ansV (Lg.of_ (Val.compare op x y).1, (Val.compare op x y).2)) ∧ Below w.heap.size w w' := by
  obtain ⟨k1, n1, s1⟩ := x
  obtain ⟨k2, n2, s2⟩ := y
  have HX : Hid (-9223372036854775808 ≤ n1 ∧ n1 ≤ 9223372036854775807) := hx.2
  have HY : Hid (-9223372036854775808 ≤ n2 ∧ n2 ≤ 9223372036854775807) := hy.2
  have hgl := hg.lt
  have g0 := hg.cell 0
  simp at g0
  obtain ⟨⟨t, e'⟩, hp⟩ : ∃ p, p = Val.compare op ⟨k1, n1, s1⟩ ⟨k2, n2, s2⟩ := ⟨_, rfl⟩
  rw [← hp]
  have HP := hide hp
  clear hx hy hp
  unfold valV
  simp only
  obtain ⟨w1, hw1⟩ : ∃ w1, w1 = ((w.alloc (.cells #[.int .u8 (k1.toNat : Int), .int .i64 n1, .string s1] 25)).alloc (.cells #[.int .u8 (k2.toNat : Int), .int .i64 n2, .string s2] 25)).alloc (.cells #[.int .u8 0, .int .i64 0, .string ⟨#[]⟩] 25) := ⟨_, rfl⟩
  have hX : Blk w1 w.heap.size 25 #[.int .u8 (k1.toNat : Int), .int .i64 n1, .string s1] := by rw [hw1]; exact ((Blk.new w _ _).alloc _).alloc _
  have hY : Blk w1 (w.heap.size + 1) 25 #[.int .u8 (k2.toNat : Int), .int .i64 n2, .string s2] := by
    rw [hw1]
    have := (Blk.new (w.alloc (.cells #[.int .u8 (k1.toNat : Int), .int .i64 n1, .string s1] 25)) 25 #[.int .u8 (k2.toNat : Int), .int .i64 n2, .string s2]).alloc (.cells #[.int .u8 0, .int .i64 0, .string ⟨#[]⟩] 25)
    simpa using this
  have HZ : Hid (Blk w1 (w.heap.size + 1 + 1) 25 #[.int .u8 0, .int .i64 0, .string ⟨#[]⟩]) := by
    rw [hw1]
    have := Blk.new ((w.alloc (.cells #[.int .u8 (k1.toNat : Int), .int .i64 n1, .string s1] 25)).alloc (.cells #[.int .u8 (k2.toNat : Int), .int .i64 n2, .string s2] 25)) 25 #[.int .u8 0, .int .i64 0, .string ⟨#[]⟩]
    exact hide (by simpa using this)
  have HB : Hid (Below w.heap.size w w1) := by
    rw [hw1]
    exact (((Below.refl _ _).alloc (Nat.le_refl _) _).alloc (by simp) _).alloc (by simp; omega) _
  have b0 := hX.cell 0
  have b1 := hX.cell 1
  have b2 := hX.cell 2
  have c0 := hY.cell 0
  have c1 := hY.cell 1
  have c2 := hY.cell 2
  simp at b0 b1 b2 c0 c1 c2
  have g1 := (HB.out.cell (p := ⟨gop, 0, none⟩) hgl).trans g0
  clear hX hY g0
  go_enter Tryz.func49, Tryz.ntmps49
  go_upto_region 1 with fail
  rw [← hw1]
  clear hw1
  go_wp2_with fail
  have cc := vCompare_any op k1 n1 s1 k2 n2 s2 w1 HX.out.1 HX.out.2 HY.out.1 HY.out.2
  rw [← HP.out] at cc
  with_reducible refine cc.mono ?_
  clear cc
  rintro e w2 ⟨rfl, hb2⟩
  unfold truV
  simp only
  have HB2 := hide (HB.out.trans (hb2.mono HB.out.size))
  have HZ2 := hide (HZ.out.below hb2 HZ.out.lt)
  clear hb2 b0 b1 b2 c0 c1 c2 g1
  go_wp2_with fail
  with_reducible refine (vOf_any t _).mono ?_
  rintro e w3 ⟨rfl, hb⟩
  obtain ⟨⟨k', n', s'⟩, hq⟩ : ∃ p, p = Lg.of_ t := ⟨_, rfl⟩
  rw [← hq, valV_mk]
  have HQ := hide hq
  clear hq
  have HZ3 := hide (HZ2.out.below hb HZ2.out.lt)
  have HB3 := hide (HB2.out.trans (hb.mono HB2.out.size))
  have z0 := HZ3.out.frozen 0
  have z1 := HZ3.out.frozen 1
  have z2 := HZ3.out.frozen 2
  have q0 := HZ3.out.cell 0
  have q1 := HZ3.out.cell 1
  have q2 := HZ3.out.cell 2
  simp at q0 q1 q2
  clear hb
  go_wp2_with fail
  exact bodyPost_ret (v := .tuple #[.agg #[.int .u8 (k'.toNat : Int), .int .i64 n', .string s'], .int .i64 (e' : Int)]) (results_val rfl (blk3 HZ3.out _ _ _) rfl rfl) rfl ⟨by first | rfl | (rw [ansV_of, ← HQ.out]; rfl), below3 HB3.out (by omega) _ _ _⟩
set_option linter.unusedVariables false in
set_option maxRecDepth 1000000 in
set_option maxHeartbeats 4000000 in
theorem mk_and (A : Option Addr) (c t u : Nat) (w : World) (hE : Env w) (hr : Rt w w.heap.size A 2 [t, u]) :
    Calls Tryz.prog 53 #[.slice A 2 c] w fun e w' => e = .returned (.int .u8 ((Lg.and_ t u : Nat) : Int)) ∧ Below w.heap.size w w' := by
  obtain ⟨b, off, rfl, hbl, d0⟩ := hr.at (k := 0) (t := t) rfl
  obtain ⟨b', off', e, _, d1⟩ := hr.at (k := 1) (t := u) rfl
  injection e with e
  injection e with e1 e2
  subst e1 e2
  rw [Nat.add_zero] at d0
  have HE := hide hE
  obtain ⟨p, hp⟩ : ∃ p, p = Lg.and_ t u := ⟨_, rfl⟩
  have HP := hide hp
  clear hr hE hp
  go_enter Tryz.func53, Tryz.ntmps53
  go_upto_region 1 with fail
  refine wp_region_flow (Up w) 7 (by kernel_rfl) (by kernel_rfl) (Up.start _) ?_
  simp only [List.take_succ_cons, List.take_zero, List.drop_succ_cons, List.drop_zero]
  refine wpFlow_read ?_ rfl (fun w' hS => ?_) ?_
  rotate_left
  · go_simp
    rfl
  go_frame
  refine wpFlow_read ?_ rfl (fun w' hS => ?_) ?_
  rotate_left
  · go_simp
    rfl
  go_frame
  refine wpFlow_read ?_ rfl (fun w' hS => ?_) ?_
  rotate_left
  · have d0' := (hS.cell (p := ⟨b, off, none⟩) hbl).trans d0
    go_simp
    rfl
  go_frame
  refine wpFlow_read ?_ rfl (fun w' hS => ?_) ?_
  rotate_left
  · go_simp
    rfl
  go_frame
  refine wpFlow_read ?_ rfl (fun w' hS => ?_) ?_
  rotate_left
  · go_simp
    rfl
  go_frame
  refine wpFlow_read ?_ rfl (fun w' hS => ?_) ?_
  rotate_left
  · have d1' := (hS.cell (p := ⟨b, off + 1, none⟩) hbl).trans d1
    go_simp
    rfl
  go_frame
  refine wpFlow_call _ _ _ rfl (fun w' hS => ?_) (fun w' (hS : (Up w) w') => ((vAnd_any t u w' (HE.out.tand.below hS HE.out.tand.lt)).mono fun e w2 hp => ⟨hp.1, (by obtain ⟨q, hq⟩ := hp.2; rw [hq]; exact below_drewN hS q)⟩)) ?_
  · go_simp
  go_frame
  refine wpFlow_nil fun w3 hS => ?_
  have HS : Hid (Below w.heap.size w w3) := hS
  clear hS d0 d1
  go_wp2_with fail
  go_ret
  exact ⟨rfl, HS.out⟩
set_option linter.unusedVariables false in
set_option maxRecDepth 1000000 in
set_option maxHeartbeats 4000000 in
theorem mk_or (A : Option Addr) (c t u : Nat) (w : World) (hE : Env w) (hr : Rt w w.heap.size A 2 [t, u]) :
    Calls Tryz.prog 55 #[.slice A 2 c] w fun e w' => e = .returned (.int .u8 ((Lg.or_ t u : Nat) : Int)) ∧ Below w.heap.size w w' := by
  obtain ⟨b, off, rfl, hbl, d0⟩ := hr.at (k := 0) (t := t) rfl
  obtain ⟨b', off', e, _, d1⟩ := hr.at (k := 1) (t := u) rfl
  injection e with e
  injection e with e1 e2
  subst e1 e2
  rw [Nat.add_zero] at d0
  have HE := hide hE
  obtain ⟨p, hp⟩ : ∃ p, p = Lg.or_ t u := ⟨_, rfl⟩
  have HP := hide hp
  clear hr hE hp
  go_enter Tryz.func55, Tryz.ntmps55
  go_upto_region 1 with fail
  refine wp_region_flow (Up w) 7 (by kernel_rfl) (by kernel_rfl) (Up.start _) ?_
  simp only [List.take_succ_cons, List.take_zero, List.drop_succ_cons, List.drop_zero]
  refine wpFlow_read ?_ rfl (fun w' hS => ?_) ?_
  rotate_left
  · go_simp
    rfl
  go_frame
  refine wpFlow_read ?_ rfl (fun w' hS => ?_) ?_
  rotate_left
  · go_simp
    rfl
  go_frame
  refine wpFlow_read ?_ rfl (fun w' hS => ?_) ?_
  rotate_left
  · have d0' := (hS.cell (p := ⟨b, off, none⟩) hbl).trans d0
    go_simp
    rfl
  go_frame
  refine wpFlow_read ?_ rfl (fun w' hS => ?_) ?_
  rotate_left
  · go_simp
    rfl
  go_frame
  refine wpFlow_read ?_ rfl (fun w' hS => ?_) ?_
  rotate_left
  · go_simp
    rfl
  go_frame
  refine wpFlow_read ?_ rfl (fun w' hS => ?_) ?_
  rotate_left
  · have d1' := (hS.cell (p := ⟨b, off + 1, none⟩) hbl).trans d1
    go_simp
    rfl
  go_frame
  refine wpFlow_call _ _ _ rfl (fun w' hS => ?_) (fun w' (hS : (Up w) w') => ((vOr_any t u w' (HE.out.tor.below hS HE.out.tor.lt)).mono fun e w2 hp => ⟨hp.1, (by obtain ⟨q, hq⟩ := hp.2; rw [hq]; exact below_drewN hS q)⟩)) ?_
  · go_simp
  go_frame
  refine wpFlow_nil fun w3 hS => ?_
  have HS : Hid (Below w.heap.size w w3) := hS
  clear hS d0 d1
  go_wp2_with fail
  go_ret
  exact ⟨rfl, HS.out⟩
set_option linter.unusedVariables false in
set_option maxRecDepth 1000000 in
set_option maxHeartbeats 4000000 in
theorem mk_not (A : Option Addr) (c t : Nat) (w : World) (hE : Env w) (hr : Rt w w.heap.size A 1 [t]) :
    Calls Tryz.prog 57 #[.slice A 1 c] w fun e w' => e = .returned (.int .u8 ((Lg.not_ t : Nat) : Int)) ∧ Below w.heap.size w w' := by
  obtain ⟨b, off, rfl, hbl, d0⟩ := hr.at (k := 0) (t := t) rfl
  rw [Nat.add_zero] at d0
  have HE := hide hE
  clear hr hE
  go_enter Tryz.func57, Tryz.ntmps57
  go_wp2_with fail
  with_reducible refine (vNot_any t _ HE.out.tnot).mono ?_
  rintro e w' ⟨rfl, rfl⟩
  go_wp2_with fail
  go_ret
  exact ⟨rfl, Below.refl _ _⟩
set_option linter.unusedVariables false in
set_option maxRecDepth 1000000 in
set_option maxHeartbeats 4000000 in
theorem mk_null (A : Option Addr) (c : Nat) (x : Cell.Val) (w : World) (hr : Rv w w.heap.size A 1 [x]) :
    Calls Tryz.prog 59 #[.slice A 1 c] w fun e w' => e = .returned (ansV (Ev.null1 x)) ∧ Below w.heap.size w w' := by
  obtain ⟨b, off, k, n, s, rfl, hbl, hx, c0, c1, c2, hok⟩ := hr.at (k := 0) (by omega)
  simp only [List.getElem?_cons_zero, Option.some.injEq] at hx
  subst hx
  rw [Nat.zero_mul, Nat.add_zero] at c0
  clear hr hok c1 c2
  obtain ⟨w1, hw1⟩ : ∃ w1, w1 = w.alloc (.cells #[.int .u8 0, .int .i64 0, .string ⟨#[]⟩] 25) := ⟨_, rfl⟩
  have HZ : Hid (Blk w1 w.heap.size 25 #[.int .u8 0, .int .i64 0, .string ⟨#[]⟩]) := by rw [hw1]; exact Blk.new _ _ _
  have HB : Hid (Below w.heap.size w w1) := by rw [hw1]; exact (Below.refl _ _).alloc (Nat.le_refl _) _
  go_enter Tryz.func59, Tryz.ntmps59
  go_upto_region 1 with fail
  rw [← hw1]
  clear hw1

  have d0 := (HB.out.cell (p := ⟨b, off, none⟩) hbl).trans c0
  clear c0
  by_cases h0 : k.toNat = 0
  · have t0 : ((k.toNat : Int) == 0) = true := by simp; omega
    have HN : Hid (Ev.null1 ⟨k, n, s⟩ = (Lg.of_ 1, 0)) := by
      show _ = _
      unfold Ev.null1
      rw [if_pos (by show k = 0; exact UInt8.toNat_inj.1 h0)]
    clear h0
    go_wp2_with fail
    have cc : Calls Tryz.prog 51 #[.int .u8 1] w1 _ := vOf_any 1 w1
    with_reducible refine cc.mono ?_
    clear cc
    rintro e w3 ⟨rfl, hb⟩
    clear d0
    obtain ⟨⟨k', n', s'⟩, hq⟩ : ∃ p, p = Lg.of_ 1 := ⟨_, rfl⟩
    rw [← hq, valV_mk]
    have HQ := hide hq
    clear hq
    have HZ3 := hide (HZ.out.below hb HZ.out.lt)
    have HB3 := hide (HB.out.trans (hb.mono HB.out.size))
    have z0 := HZ3.out.frozen 0
    have z1 := HZ3.out.frozen 1
    have z2 := HZ3.out.frozen 2
    have q0 := HZ3.out.cell 0
    have q1 := HZ3.out.cell 1
    have q2 := HZ3.out.cell 2
    simp at q0 q1 q2

    clear hb
    go_wp2_with fail
    exact bodyPost_ret (v := .tuple #[.agg #[.int .u8 (k'.toNat : Int), .int .i64 n', .string s'], .int .i64 0]) (results_val rfl (blk3 HZ3.out _ _ _) rfl rfl) rfl ⟨by rw [HN.out, ← HQ.out]; rfl, below3 HB3.out (Nat.le_refl _) _ _ _⟩
  · have t0 : ((k.toNat : Int) == 0) = false := by simp; omega
    have HN : Hid (Ev.null1 ⟨k, n, s⟩ = (Lg.of_ 0, 0)) := by
      show _ = _
      unfold Ev.null1
      rw [if_neg (by show ¬ k = 0; intro e; rw [e] at h0; exact h0 rfl)]
    clear h0
    go_wp2_with fail
    have cc : Calls Tryz.prog 51 #[.int .u8 0] w1 _ := vOf_any 0 w1
    with_reducible refine cc.mono ?_
    clear cc
    rintro e w3 ⟨rfl, hb⟩
    clear d0
    obtain ⟨⟨k', n', s'⟩, hq⟩ : ∃ p, p = Lg.of_ 0 := ⟨_, rfl⟩
    rw [← hq, valV_mk]
    have HQ := hide hq
    clear hq
    have HZ3 := hide (HZ.out.below hb HZ.out.lt)
    have HB3 := hide (HB.out.trans (hb.mono HB.out.size))
    have z0 := HZ3.out.frozen 0
    have z1 := HZ3.out.frozen 1
    have z2 := HZ3.out.frozen 2
    have q0 := HZ3.out.cell 0
    have q1 := HZ3.out.cell 1
    have q2 := HZ3.out.cell 2
    simp at q0 q1 q2

    clear hb
    go_wp2_with fail
    exact bodyPost_ret (v := .tuple #[.agg #[.int .u8 (k'.toNat : Int), .int .i64 n', .string s'], .int .i64 0]) (results_val rfl (blk3 HZ3.out _ _ _) rfl rfl) rfl ⟨by rw [HN.out, ← HQ.out]; rfl, below3 HB3.out (Nat.le_refl _) _ _ _⟩
end Go.Proofs.YticljmgcgjibpaaGreatDoor
