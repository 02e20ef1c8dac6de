/-
  The walk of eval.operation: how many kids an operation has, and what it does. Conditions: the tables are laid.
-/
import Derived.Test.YticljmgcgjibpaaGreatDoorEvC
namespace Go.Proofs.YticljmgcgjibpaaGreatDoor
open Go.RowKit

set_option linter.unusedVariables false in
set_option maxRecDepth 1000000 in
set_option maxHeartbeats 4000000 in
theorem mk_logic (N : FuncId) (gt : List Nat → Nat) (A : Option Addr) (n c gd : Nat) (l : List Cell.Val) (w : World) (hN : ∀ (x : Value) (w : World), (callFunc N #[x]).run Tryz.prog w = .ok (.enter N #[x]) w)
    (hC : ∀ w', Below w.heap.size w w' → ∀ (A : Option Addr) (c : Nat) (ts : List Nat), ts.length = n → Rt w' w'.heap.size A n ts → Calls Tryz.prog N #[.slice A n c] w' fun e w'' => e = .returned (.int .u8 ((gt ts : Nat) : Int)) ∧ Below w'.heap.size w' w'')
    (hg : Blk w gd 75 #[.func (.func N) #[] #[]]) (hr : Rv w w.heap.size A n l) (hn : n ≤ 2) :
    Calls Tryz.prog 85 #[.slice A n c, .pointer (some ⟨gd, 0, none⟩)] w fun e w' => e = .returned (ansV (Ev.lgn gt l)) ∧ Below w.heap.size w w' := by
  have HR := hide hr
  have HC := hide hC
  have HL := hide hr.len
  have HGl := hide hg.lt
  have HG := hide hg
  clear hr hC hg
  obtain ⟨w1, hw1⟩ : ∃ w1, w1 = w.alloc (.cells #[.int .u8 0, .int .i64 0, .string ⟨#[]⟩] 25) := ⟨_, rfl⟩
  have HZ : Hid (Blk w1 w.heap.size 25 #[.int .u8 0, .int .i64 0, .string ⟨#[]⟩]) := by rw [hw1]; exact Blk.new _ _ _
  have HB : Hid (Below w.heap.size w w1) := by rw [hw1]; exact (Below.refl _ _).alloc (Nat.le_refl _) _
  go_enter Tryz.func85, Tryz.ntmps85
  go_upto_region 1 with fail
  rw [← hw1]
  clear hw1

  go_wp2_with fail
  go_loopg [5, 12] n (fun gg kv iv wr => ∃ (k : Nat) (ts : List Nat), k ≤ n ∧ gg = n - k ∧ iv = .int .i64 (k : Nat) ∧ Hid (Ev.truthsB (l.take k) = (ts, 0)) ∧ Hid (wr.ownsRow w1.heap.size 36 1 kv ts.length (tru ts)) ∧ Below w1.heap.size w1 wr)
  case atStart => exact ⟨0, [], Nat.zero_le _, rfl, rfl, rfl, own_nil _ _ _ _, Below.refl _ _⟩
  case round =>
    obtain ⟨k, ts, hk, rfl, rfl, HT, HO, hbel⟩ := hrel
    obtain ⟨w5, hw5⟩ : ∃ w5, w5 = wr := ⟨_, rfl⟩
    subst hw5
    have HB5 := hide (HB.out.trans (hbel.mono HB.out.size))
    have HB15 := hide hbel
    have HZ5 := hide (HZ.out.below hbel HZ.out.lt)
    have HG5 := hide (HG.out.below HB5.out HGl.out)
    have hs5 := hbel.size
    clear hbel
    by_cases hlt : k < n
    · obtain ⟨b, off, kd, nn, ss, rfl, hbl, hlk, c0, c1, c2, hok⟩ := HR.out.at hlt
      replace c0 := (HB5.out.cell (p := ⟨b, off + k * 3, none⟩) hbl).trans c0
      replace c1 := (HB5.out.cell (p := ⟨b, off + k * 3 + 1, none⟩) hbl).trans c1
      replace c2 := (HB5.out.cell (p := ⟨b, off + k * 3 + 2, none⟩) hbl).trans c2
      have HLk := hide hlk
      clear hlk hok
      obtain ⟨w6, hw6⟩ : ∃ w6, w6 = w5.alloc (.cells #[.int .u8 (kd.toNat : Int), .int .i64 nn, .string ss] 25) := ⟨_, rfl⟩
      have hK6 : Blk w6 w5.heap.size 25 #[.int .u8 (kd.toNat : Int), .int .i64 nn, .string ss] := by rw [hw6]; exact Blk.new _ _ _
      have hb6 : Below w5.heap.size w5 w6 := by rw [hw6]; exact (Below.refl _ _).alloc (Nat.le_refl _) _
      have HB56 := hide hb6
      go_upto_region 5 with fail
      rw [← hw6]
      clear hw6 c0 c1 c2
      have v0 := hK6.cell 0
      have v1 := hK6.cell 1
      have v2 := hK6.cell 2
      simp at v0 v1 v2
      clear hK6 hb6
      obtain ⟨⟨t, er⟩, hp⟩ : ∃ p, p = Lg.truth ⟨kd, nn, ss⟩ := ⟨_, rfl⟩
      have HP := hide hp.symm
      clear hp
      go_wp2_with fail
      have cc := vTruth_any kd nn ss w6
      rw [HP.out] at cc
      unfold truV at cc
      with_reducible refine cc.mono ?_
      clear cc
      simp only
      rintro e w7 ⟨rfl, hb7⟩
      have HB57 := hide (HB56.out.trans (hb7.mono HB56.out.size))
      clear hb7 v0 v1 v2
      have HZ7 := hide (HZ5.out.below HB57.out HZ5.out.lt)
      have HO7 := hide (own_below HO.out HB57.out)
      have HB7 := hide (HB5.out.trans (HB57.out.mono HB5.out.size))
      have hs7 := HB57.out.size
      by_cases her : er = 0
      · subst her
        have HT2 : Hid (Ev.truthsB (l.take (k + 1)) = (ts ++ [t], 0)) := by
          show _ = _
          rw [List.take_add_one, HLk.out]
          exact Ev.truths_snoc HT.out HP.out
        have hlen : ts.length ≤ 2 := by
          have h1 := Ev.truths_len HT.out
          rw [List.length_take] at h1
          omega
        obtain ⟨w8, hw8⟩ : ∃ w8, w8 = w7.alloc (.cells #[.int .u8 (t : Int)] 36) := ⟨_, rfl⟩
        have HG8 : Hid (Blk w8 w7.heap.size 36 #[.int .u8 (t : Int)]) := by rw [hw8]; exact Blk.new _ _ _
        have hb8 : Below w7.heap.size w7 w8 := by rw [hw8]; exact (Below.refl _ _).alloc (Nat.le_refl _) _
        have HB18 := hide ((HB15.out.trans (HB57.out.mono hs5)).trans (hb8.mono (by omega)))
        have HO8 := hide (own_below HO7.out hb8)
        have hs8 := hb8.size
        clear hb8
        go_wp2_with (at_builtin; rw [← hw8]; refine wpList_appTr rfl (.tmp 25) (.tmp 27) rfl w1.heap.size _ ts rfl HO8.out w7.heap.size 1 t rfl HG8.out (by omega) (by omega) ?_; intro v9 w9 ho9 hb9; have HO9 := hide ho9; have HB9 := hide (HB18.out.trans hb9); clear ho9 hb9)
        go_roundg (n - (k + 1))
        case measure => omega
        case rel => exact ⟨k + 1, ts ++ [t], by omega, rfl, by go_num, HT2.out, HO9.out, HB9.out⟩
      · have te : ((er : Int) != 0) = true := by simp; omega
        have HT2 : Hid (Ev.lgn gt l = (Val.vz, er)) := by
          show _ = _
          have hkl : k < l.length := by rw [HL.out]; exact hlt
          have h1 := Ev.truths_stop (r := l.drop (k + 1)) HT.out HP.out her
          have h2 : l = l.take k ++ (⟨kd, nn, ss⟩ : Cell.Val) :: l.drop (k + 1) := by
            have e1 : l[k] = ⟨kd, nn, ss⟩ := (List.getElem?_eq_some_iff.1 HLk.out).2
            rw [← e1, ← List.drop_eq_getElem_cons hkl, List.take_append_drop]
          rw [← h2] at h1
          unfold Ev.lgn
          rw [h1, if_pos her]
        have z0 := HZ7.out.frozen 0
        have z1 := HZ7.out.frozen 1
        have z2 := HZ7.out.frozen 2
        have q0 := HZ7.out.cell 0
        have q1 := HZ7.out.cell 1
        have q2 := HZ7.out.cell 2
        simp at q0 q1 q2
        clear her
        go_wp2_with fail
        exact bodyPost_ret (v := .tuple #[.agg #[.int .u8 0, .int .i64 0, .string ⟨#[]⟩], .int .i64 (er : Int)]) (results_val rfl (blk3 HZ7.out _ _ _) rfl rfl) rfl ⟨by rw [HT2.out]; rfl, below3 HB7.out (Nat.le_refl _) _ _ _⟩
    · obtain rfl : k = n := by omega
      have hT := HT.out
      rw [List.take_of_length_le (by rw [HL.out]; exact Nat.le_refl _)] at hT
      have hlen : ts.length = k := (Ev.truths_len hT).trans HL.out
      obtain ⟨A5, c5, rfl, _, _, _⟩ := own_form HO.out
      have hO := HO.out
      rw [hlen] at hO ⊢
      have HRt : Hid (Rt w5 w5.heap.size A5 k ts) := Rd.own hO
      have HE : Hid (Ev.lgn gt l = (Lg.of_ (gt ts), 0)) := by
        show _ = _
        unfold Ev.lgn
        rw [hT, if_neg (by simp)]
      have HLn := hide hlen
      clear hT hlen hO
      have d0 := HG5.out.cell 0
      simp at d0
      go_wp2_with fail
      with_reducible refine (HC.out _ HB5.out A5 c5 ts HLn.out HRt.out).mono ?_
      rintro e w6 ⟨rfl, hb6⟩
      have HB6 := hide (HB5.out.trans (hb6.mono HB5.out.size))
      have HZ6 := hide (HZ5.out.below hb6 HZ5.out.lt)
      clear hb6 d0
      go_wp2_with fail
      with_reducible refine (vOf_any (gt ts) _).mono ?_
      rintro e w7 ⟨rfl, hb⟩
      obtain ⟨⟨k', n', s'⟩, hq⟩ : ∃ p, p = Lg.of_ (gt ts) := ⟨_, rfl⟩
      rw [← hq, valV_mk]
      have HQ := hide hq
      clear hq
      have HZ3 := hide (HZ6.out.below hb HZ6.out.lt)
      have HB3 := hide (HB6.out.trans (hb.mono HB6.out.size))
      have z0 := HZ3.out.frozen 0
      have z1 := HZ3.out.frozen 1
      have z2 := HZ3.out.frozen 2
      have q0 := HZ3.out.cell 0
      have q1 := HZ3.out.cell 1
      have q2 := HZ3.out.cell 2
      simp at q0 q1 q2
      clear hb
      go_wp2_with fail
      exact bodyPost_ret (v := .tuple #[.agg #[.int .u8 (k'.toNat : Int), .int .i64 n', .string s'], .int .i64 0]) (results_val rfl (blk3 HZ3.out _ _ _) rfl rfl) rfl ⟨by rw [HE.out, ← HQ.out]; rfl, below3 HB3.out (Nat.le_refl _) _ _ _⟩
set_option linter.unusedVariables false in
set_option maxRecDepth 1000000 in
set_option maxHeartbeats 4000000 in
theorem mk_op10 (N : Nat) (w : World) : Calls Tryz.prog 43 #[.func (.func N) #[] #[]] w fun e w' => ∃ g, e = .returned (.tuple #[.int .i64 2, .func (.func 44) #[] #[.pointer (some ⟨g, 0, none⟩)]]) ∧ Blk w' g 57 #[.func (.func N) #[] #[]] ∧ Below w.heap.size w w' := by
  go_enter Tryz.func43, Tryz.ntmps43
  go_wp2_with fail
  go_ret2
  exact ⟨_, rfl, Blk.new _ _ _, (Below.refl _ _).alloc (Nat.le_refl _) _⟩
set_option linter.unusedVariables false in
set_option maxRecDepth 1000000 in
set_option maxHeartbeats 4000000 in
theorem mk_op11 (N p : Nat) (w : World) : Calls Tryz.prog 43 #[.func (.func N) #[] #[.pointer (some ⟨p, 0, none⟩)]] w fun e w' => ∃ g, e = .returned (.tuple #[.int .i64 2, .func (.func 44) #[] #[.pointer (some ⟨g, 0, none⟩)]]) ∧ Blk w' g 57 #[.func (.func N) #[] #[.pointer (some ⟨p, 0, none⟩)]] ∧ Below w.heap.size w w' := by
  go_enter Tryz.func43, Tryz.ntmps43
  go_wp2_with fail
  go_ret2
  exact ⟨_, rfl, Blk.new _ _ _, (Below.refl _ _).alloc (Nat.le_refl _) _⟩
set_option linter.unusedVariables false in
set_option maxRecDepth 1000000 in
set_option maxHeartbeats 4000000 in
theorem mk_lg (N : Nat) (w : World) : Calls Tryz.prog 52 #[.func (.func N) #[] #[]] w fun e w' => ∃ g, e = .returned (.func (.func 85) #[] #[.pointer (some ⟨g, 0, none⟩)]) ∧ Blk w' g 75 #[.func (.func N) #[] #[]] ∧ Below w.heap.size w w' := by
  go_enter Tryz.func52, Tryz.ntmps52
  go_wp2_with fail
  go_ret
  exact ⟨_, rfl, Blk.new _ _ _, (Below.refl _ _).alloc (Nat.le_refl _) _⟩
/-- What a maker tells: the operation's value; an error with whatever value. -/
def MkR (o : UInt8) (l : List Cell.Val) (w : World) (e : Ending) (w' : World) : Prop := ∃ v, e = .returned (ansV (v, (Ev.opn o l).2)) ∧ ((Ev.opn o l).2 = 0 → v = (Ev.opn o l).1) ∧ Below w.heap.size w w'
theorem MkR.of {o : UInt8} {l : List Cell.Val} {w w' : World} {e : Ending} {p : Cell.Val × Nat} (h : e = .returned (ansV p)) (h2 : p.2 = (Ev.opn o l).2) (h1 : p.2 = 0 → p.1 = (Ev.opn o l).1) (hb : Below w.heap.size w w') : MkR o l w e w' :=
  ⟨p.1, by rw [h, ← h2], fun h0 => h1 (h2.trans h0), hb⟩
/-- A function value that does operation o upon n values. -/
def MkP (w : World) (F : Value) (n : Nat) (o : UInt8) : Prop :=
  (∃ N, F = .func (.func N) #[] #[] ∧ (∀ (x : Value) (w : World), (callFunc N #[x]).run Tryz.prog w = .ok (.enter N #[x]) w) ∧ ∀ w', Below w.heap.size w w' → Env w' → ∀ (A : Option Addr) (c : Nat) (l : List Cell.Val), Rv w' w'.heap.size A n l → Calls Tryz.prog N #[.slice A n c] w' (MkR o l w')) ∨
  (∃ N p, F = .func (.func N) #[] #[.pointer (some ⟨p, 0, none⟩)] ∧ (∀ (x : Value) (w : World), (callFunc N #[x, .pointer (some ⟨p, 0, none⟩)]).run Tryz.prog w = .ok (.enter N #[x, .pointer (some ⟨p, 0, none⟩)]) w) ∧ ∀ w', Below w.heap.size w w' → Env w' → ∀ (A : Option Addr) (c : Nat) (l : List Cell.Val), Rv w' w'.heap.size A n l → Calls Tryz.prog N #[.slice A n c, .pointer (some ⟨p, 0, none⟩)] w' (MkR o l w'))
theorem one_of {w : World} {B : Nat} {A : Option Addr} {l : List Cell.Val} (h : Rv w B A 1 l) : ∃ x, l = [x] := by
  have := h.len
  match l, this with
  | [x], _ => exact ⟨x, rfl⟩
theorem two_of {w : World} {B : Nat} {A : Option Addr} {l : List Cell.Val} (h : Rv w B A 2 l) : ∃ x y, l = [x, y] := by
  have := h.len
  match l, this with
  | [x, y], _ => exact ⟨x, y, rfl⟩
theorem Ev.opn3 (x : Cell.Val) : Ev.opn 3 [x] = Val.neg x := rfl
theorem Ev.opn15 (x : Cell.Val) : Ev.opn 15 [x] = Ev.lg1 x := rfl
theorem Ev.opn16 (x : Cell.Val) : Ev.opn 16 [x] = Ev.null1 x := rfl
theorem Ev.opn4 (x y : Cell.Val) : Ev.opn 4 [x, y] = Val.add x y := rfl
theorem Ev.opn5 (x y : Cell.Val) : Ev.opn 5 [x, y] = Val.sub x y := rfl
theorem Ev.opn6 (x y : Cell.Val) : Ev.opn 6 [x, y] = Val.mul x y := rfl
theorem Ev.opn13 (x y : Cell.Val) : Ev.opn 13 [x, y] = Ev.lg2 Lg.and_ x y := rfl
theorem Ev.opn14 (x y : Cell.Val) : Ev.opn 14 [x, y] = Ev.lg2 Lg.or_ x y := rfl
theorem Ev.opn7 (x y : Cell.Val) : Ev.opn 7 [x, y] = Ev.cmp2 7 x y := rfl
theorem Ev.opn8 (x y : Cell.Val) : Ev.opn 8 [x, y] = Ev.cmp2 8 x y := rfl
theorem Ev.opn9 (x y : Cell.Val) : Ev.opn 9 [x, y] = Ev.cmp2 9 x y := rfl
theorem Ev.opn10 (x y : Cell.Val) : Ev.opn 10 [x, y] = Ev.cmp2 10 x y := rfl
theorem Ev.opn11 (x y : Cell.Val) : Ev.opn 11 [x, y] = Ev.cmp2 11 x y := rfl
theorem Ev.opn12 (x y : Cell.Val) : Ev.opn 12 [x, y] = Ev.cmp2 12 x y := rfl
theorem mkP_neg (w : World) : MkP w (.func (.func 45) #[] #[]) 1 3 := .inl ⟨_, rfl, fun x w => by simp [go_sem], fun w' _ _ A c l hr => by
  obtain ⟨x, rfl⟩ := one_of hr
  exact (mk_neg A c x w' hr).mono fun e w'' h => MkR.of h.1 (by rw [Ev.opn3]) (fun _ => by rw [Ev.opn3]) h.2⟩
theorem mkP_null (w : World) : MkP w (.func (.func 59) #[] #[]) 1 16 := .inl ⟨_, rfl, fun x w => by simp [go_sem], fun w' _ _ A c l hr => by
  obtain ⟨x, rfl⟩ := one_of hr
  exact (mk_null A c x w' hr).mono fun e w'' h => MkR.of h.1 (by rw [Ev.opn16]) (fun _ => by rw [Ev.opn16]) h.2⟩
theorem mkP_add (w : World) (g : Nat) (h : Blk w g 57 #[.func (.func 39) #[] #[]]) : MkP w (.func (.func 44) #[] #[.pointer (some ⟨g, 0, none⟩)]) 2 4 := .inr ⟨_, g, rfl, fun x w => by simp [go_sem], fun w' hb _ A c l hr => by
  obtain ⟨x, y, rfl⟩ := two_of hr
  refine (mk_two0 39 Val.add A c g x y w' (fun x y w => by simp [go_sem]) (fun w'' _ x y hx hy => vAdd_any x.k x.n x.s y.k y.n y.s w'' hx.2.1 hx.2.2 hy.2.1 hy.2.2) (h.below hb h.lt) hr).mono fun e w'' h => MkR.of h.1 (by rw [Ev.opn4]) (fun _ => by rw [Ev.opn4]) h.2⟩
theorem mkP_sub (w : World) (g : Nat) (h : Blk w g 57 #[.func (.func 47) #[] #[]]) : MkP w (.func (.func 44) #[] #[.pointer (some ⟨g, 0, none⟩)]) 2 5 := .inr ⟨_, g, rfl, fun x w => by simp [go_sem], fun w' hb _ A c l hr => by
  obtain ⟨x, y, rfl⟩ := two_of hr
  refine (mk_two0 47 Val.sub A c g x y w' (fun x y w => by simp [go_sem]) (fun w'' _ x y hx hy => vSub_any x.k x.n x.s y.k y.n y.s w'' hx.2.1 hx.2.2 hy.2.1 hy.2.2) (h.below hb h.lt) hr).mono fun e w'' h => MkR.of h.1 (by rw [Ev.opn5]) (fun _ => by rw [Ev.opn5]) h.2⟩
theorem mkP_mul (w : World) (g : Nat) (h : Blk w g 57 #[.func (.func 48) #[] #[]]) : MkP w (.func (.func 44) #[] #[.pointer (some ⟨g, 0, none⟩)]) 2 6 := .inr ⟨_, g, rfl, fun x w => by simp [go_sem], fun w' hb _ A c l hr => by
  obtain ⟨x, y, rfl⟩ := two_of hr
  refine (mk_two0 48 Val.mul A c g x y w' (fun x y w => by simp [go_sem]) (fun w'' _ x y hx hy => vMul_any x.k x.n x.s y.k y.n y.s w'' hx.2.1 hx.2.2 hy.2.1 hy.2.2) (h.below hb h.lt) hr).mono fun e w'' h => MkR.of h.1 (by rw [Ev.opn6]) (fun _ => by rw [Ev.opn6]) h.2⟩
theorem Ev.cmp2_err (n : Nat) (x y : Cell.Val) : (Ev.cmp2 n x y).2 = (Val.compare n x y).2 := by
  unfold Ev.cmp2
  split
  · rfl
  · rename_i h
    simpa using (Classical.not_not.1 h).symm
theorem Ev.cmp2_ok {n : Nat} {x y : Cell.Val} (h : (Val.compare n x y).2 = 0) : (Ev.cmp2 n x y).1 = Lg.of_ (Val.compare n x y).1 := by
  unfold Ev.cmp2
  rw [if_neg (by simp [h])]
theorem mkP_cmp (w : World) (o : UInt8) (g gop : Nat) (ho : ∀ x y, Ev.opn o [x, y] = Ev.cmp2 o.toNat x y) (hop : Blk w gop 22 #[.int .u8 (o.toNat : Int)]) (h : Blk w g 57 #[.func (.func 49) #[] #[.pointer (some ⟨gop, 0, none⟩)]]) : MkP w (.func (.func 44) #[] #[.pointer (some ⟨g, 0, none⟩)]) 2 o := .inr ⟨_, g, rfl, fun x w => by simp [go_sem], fun w' hb _ A c l hr => by
  obtain ⟨x, y, rfl⟩ := two_of hr
  refine (mk_two1 49 gop (fun x y => (Lg.of_ (Val.compare o.toNat x y).1, (Val.compare o.toNat x y).2)) A c g x y w' (fun x y w => by simp [go_sem]) (fun w'' hb2 x y hx hy => mk_cmp o.toNat gop x y w'' ((hop.below hb hop.lt).below hb2 (Nat.lt_of_lt_of_le hop.lt hb.size)) hx hy) (h.below hb h.lt) hr).mono fun e w'' h => MkR.of h.1 (by rw [ho, Ev.cmp2_err]) (fun h0 => by rw [ho, Ev.cmp2_ok h0]) h.2⟩
theorem Ev.lgn_two (f : Nat → Nat → Nat) (x y : Cell.Val) : Ev.lgn (fun ts => f (ts.getD 0 0) (ts.getD 1 0)) [x, y] = Ev.lg2 f x y := by
  unfold Ev.lgn Ev.lg2
  by_cases h1 : (Lg.truth x).2 = 0
  · by_cases h2 : (Lg.truth y).2 = 0
    · simp [Ev.truthsB, h1, h2]
    · simp [Ev.truthsB, h1, h2]
  · simp [Ev.truthsB, h1]
theorem Ev.lgn_one (f : Nat → Nat) (x : Cell.Val) : Ev.lgn (fun ts => f (ts.getD 0 0)) [x] = if (Lg.truth x).2 ≠ 0 then (Val.vz, (Lg.truth x).2) else (Lg.of_ (f (Lg.truth x).1), 0) := by
  unfold Ev.lgn
  by_cases h1 : (Lg.truth x).2 = 0
  · simp [Ev.truthsB, h1]
  · simp [Ev.truthsB, h1]
theorem mkP_not (w : World) (g : Nat) (h : Blk w g 75 #[.func (.func 57) #[] #[]]) : MkP w (.func (.func 85) #[] #[.pointer (some ⟨g, 0, none⟩)]) 1 15 := .inr ⟨_, g, rfl, fun x w => by simp [go_sem], fun w' hb hE A c l hr => by
  obtain ⟨x, rfl⟩ := one_of hr
  refine (mk_logic 57 (fun ts => Lg.not_ (ts.getD 0 0)) A 1 c g [x] w' (fun x w => by simp [go_sem]) (fun w'' hb2 A c ts hts hrt => ?_) (h.below hb h.lt) hr (by omega)).mono fun e w'' h => MkR.of h.1 (by rw [Ev.opn15, Ev.lgn_one]; rfl) (fun _ => by rw [Ev.opn15, Ev.lgn_one]; rfl) h.2
  match ts, hts with
  | [t], _ => exact mk_not A c t w'' (hE.next hb2) hrt⟩
theorem mkP_and (w : World) (g : Nat) (h : Blk w g 75 #[.func (.func 53) #[] #[]]) : MkP w (.func (.func 85) #[] #[.pointer (some ⟨g, 0, none⟩)]) 2 13 := .inr ⟨_, g, rfl, fun x w => by simp [go_sem], fun w' hb hE A c l hr => by
  obtain ⟨x, y, rfl⟩ := two_of hr
  refine (mk_logic 53 (fun ts => Lg.and_ (ts.getD 0 0) (ts.getD 1 0)) A 2 c g [x, y] w' (fun x w => by simp [go_sem]) (fun w'' hb2 A c ts hts hrt => ?_) (h.below hb h.lt) hr (by omega)).mono fun e w'' h => MkR.of h.1 (by rw [Ev.opn13, Ev.lgn_two]) (fun _ => by rw [Ev.opn13, Ev.lgn_two]) h.2
  match ts, hts with
  | [t, u], _ => exact mk_and A c t u w'' (hE.next hb2) hrt⟩
theorem mkP_or (w : World) (g : Nat) (h : Blk w g 75 #[.func (.func 55) #[] #[]]) : MkP w (.func (.func 85) #[] #[.pointer (some ⟨g, 0, none⟩)]) 2 14 := .inr ⟨_, g, rfl, fun x w => by simp [go_sem], fun w' hb hE A c l hr => by
  obtain ⟨x, y, rfl⟩ := two_of hr
  refine (mk_logic 55 (fun ts => Lg.or_ (ts.getD 0 0) (ts.getD 1 0)) A 2 c g [x, y] w' (fun x w => by simp [go_sem]) (fun w'' hb2 A c ts hts hrt => ?_) (h.below hb h.lt) hr (by omega)).mono fun e w'' h => MkR.of h.1 (by rw [Ev.opn14, Ev.lgn_two]) (fun _ => by rw [Ev.opn14, Ev.lgn_two]) h.2
  match ts, hts with
  | [t, u], _ => exact mk_or A c t u w'' (hE.next hb2) hrt⟩
theorem Ev.ar (o : UInt8) (n : Nat) (h : o.toNat = n) : o = UInt8.ofNat n := Ev.o_eq h
theorem Ev.ar_none {o : UInt8} (h : o.toNat < 3 ∨ 16 < o.toNat) : Ev.arity o = 0 := by
  unfold Ev.arity
  rw [if_neg, if_neg (by omega)]
  rintro (e | e | e) <;> rw [e] at h <;> exact absurd h (by decide)
def OpR (o : UInt8) (w : World) (e : Ending) (w' : World) : Prop := ∃ F, e = .returned (.tuple #[.int .i64 (Ev.arity o : Int), F]) ∧ (Ev.arity o ≠ 0 → MkP w' F (Ev.arity o) o) ∧ Below w.heap.size w w'
theorem OpR.of {o : UInt8} {w w' : World} {e : Ending} {F : Value} {n : Nat} {N : Int} (hN : N = (n : Int)) (h : e = .returned (.tuple #[.int .i64 N, F])) (ha : Ev.arity o = n) (hm : MkP w' F n o) (hb : Below w.heap.size w w') : OpR o w e w' := by
  subst hN ha
  exact ⟨F, h, fun _ => hm, hb⟩
set_option linter.unusedVariables false in
set_option maxRecDepth 1000000 in
set_option maxHeartbeats 4000000 in
theorem operation_any (o : UInt8) (w : World) : Calls Tryz.prog 21 #[.int .u8 (o.toNat : Int)] w (OpR o w) := by
  obtain ⟨w1, hw1⟩ : ∃ w1, w1 = w.alloc (.cells #[.int .u8 (o.toNat : Int)] 22) := ⟨_, rfl⟩
  have HO : Hid (Blk w1 w.heap.size 22 #[.int .u8 (o.toNat : Int)]) := by rw [hw1]; exact Blk.new _ _ _
  have HB : Hid (Below w.heap.size w w1) := by rw [hw1]; exact (Below.refl _ _).alloc (Nat.le_refl _) _
  have o0 := HO.out.cell 0
  simp at o0
  go_enter Tryz.func21, Tryz.ntmps21
  go_upto_region 3 with fail
  rw [← hw1]
  clear hw1 o0
  rcases (by omega : o.toNat < 3 ∨ 16 < o.toNat ∨ o.toNat = 3 ∨ o.toNat = 4 ∨ o.toNat = 5 ∨ o.toNat = 6 ∨ o.toNat = 7 ∨ o.toNat = 8 ∨ o.toNat = 9 ∨ o.toNat = 10 ∨ o.toNat = 11 ∨ o.toNat = 12 ∨ o.toNat = 13 ∨ o.toNat = 14 ∨ o.toNat = 15 ∨ o.toNat = 16) with h | h | h | h | h | h | h | h | h | h | h | h | h | h | h | h
  · have HA := hide (Ev.ar_none (o := o) (.inl h))
    have t3 : ((o.toNat : Int) == 3) = false := by simp; omega
    have t4 : ((o.toNat : Int) == 4) = false := by simp; omega
    have t5 : ((o.toNat : Int) == 5) = false := by simp; omega
    have t6 : ((o.toNat : Int) == 6) = false := by simp; omega
    have t7 : ((o.toNat : Int) == 7) = false := by simp; omega
    have t8 : ((o.toNat : Int) == 8) = false := by simp; omega
    have t9 : ((o.toNat : Int) == 9) = false := by simp; omega
    have t10 : ((o.toNat : Int) == 10) = false := by simp; omega
    have t11 : ((o.toNat : Int) == 11) = false := by simp; omega
    have t12 : ((o.toNat : Int) == 12) = false := by simp; omega
    have t13 : ((o.toNat : Int) == 13) = false := by simp; omega
    have t14 : ((o.toNat : Int) == 14) = false := by simp; omega
    have t15 : ((o.toNat : Int) == 15) = false := by simp; omega
    have t16 : ((o.toNat : Int) == 16) = false := by simp; omega
    clear h
    go_wp2_with fail
    go_ret2
    exact ⟨_, by rw [HA.out]; rfl, fun h => absurd HA.out h, HB.out⟩
  · have HA := hide (Ev.ar_none (o := o) (.inr h))
    have t3 : ((o.toNat : Int) == 3) = false := by simp; omega
    have t4 : ((o.toNat : Int) == 4) = false := by simp; omega
    have t5 : ((o.toNat : Int) == 5) = false := by simp; omega
    have t6 : ((o.toNat : Int) == 6) = false := by simp; omega
    have t7 : ((o.toNat : Int) == 7) = false := by simp; omega
    have t8 : ((o.toNat : Int) == 8) = false := by simp; omega
    have t9 : ((o.toNat : Int) == 9) = false := by simp; omega
    have t10 : ((o.toNat : Int) == 10) = false := by simp; omega
    have t11 : ((o.toNat : Int) == 11) = false := by simp; omega
    have t12 : ((o.toNat : Int) == 12) = false := by simp; omega
    have t13 : ((o.toNat : Int) == 13) = false := by simp; omega
    have t14 : ((o.toNat : Int) == 14) = false := by simp; omega
    have t15 : ((o.toNat : Int) == 15) = false := by simp; omega
    have t16 : ((o.toNat : Int) == 16) = false := by simp; omega
    clear h
    go_wp2_with fail
    go_ret2
    exact ⟨_, by rw [HA.out]; rfl, fun h => absurd HA.out h, HB.out⟩
  · have HA := hide (Ev.ar o 3 h)
    have t3 : ((o.toNat : Int) == 3) = true := by simp; omega
    clear h
    go_wp2_with fail
    go_ret2
    exact OpR.of (n := 1) rfl rfl (by rw [HA.out]; rfl) (by rw [HA.out]; exact mkP_neg _) HB.out
  · have HA := hide (Ev.ar o 4 h)
    have t3 : ((o.toNat : Int) == 3) = false := by simp; omega
    have t4 : ((o.toNat : Int) == 4) = true := by simp; omega
    clear h
    go_wp2_with fail
    with_reducible refine (mk_op10 39 w1).mono ?_
    rintro e w2 ⟨g, rfl, hg, hb⟩
    have HG := hide hg
    have HB2 := hide (HB.out.trans (hb.mono HB.out.size))
    clear hg hb
    go_wp2_with fail
    go_ret2
    exact OpR.of (n := 2) rfl rfl (by rw [HA.out]; rfl) (by rw [HA.out]; exact mkP_add _ _ HG.out) HB2.out
  · have HA := hide (Ev.ar o 5 h)
    have t3 : ((o.toNat : Int) == 3) = false := by simp; omega
    have t4 : ((o.toNat : Int) == 4) = false := by simp; omega
    have t5 : ((o.toNat : Int) == 5) = true := by simp; omega
    clear h
    go_wp2_with fail
    with_reducible refine (mk_op10 47 w1).mono ?_
    rintro e w2 ⟨g, rfl, hg, hb⟩
    have HG := hide hg
    have HB2 := hide (HB.out.trans (hb.mono HB.out.size))
    clear hg hb
    go_wp2_with fail
    go_ret2
    exact OpR.of (n := 2) rfl rfl (by rw [HA.out]; rfl) (by rw [HA.out]; exact mkP_sub _ _ HG.out) HB2.out
  · have HA := hide (Ev.ar o 6 h)
    have t3 : ((o.toNat : Int) == 3) = false := by simp; omega
    have t4 : ((o.toNat : Int) == 4) = false := by simp; omega
    have t5 : ((o.toNat : Int) == 5) = false := by simp; omega
    have t6 : ((o.toNat : Int) == 6) = true := by simp; omega
    clear h
    go_wp2_with fail
    with_reducible refine (mk_op10 48 w1).mono ?_
    rintro e w2 ⟨g, rfl, hg, hb⟩
    have HG := hide hg
    have HB2 := hide (HB.out.trans (hb.mono HB.out.size))
    clear hg hb
    go_wp2_with fail
    go_ret2
    exact OpR.of (n := 2) rfl rfl (by rw [HA.out]; rfl) (by rw [HA.out]; exact mkP_mul _ _ HG.out) HB2.out
  · have HA := hide (Ev.ar o 7 h)
    have t3 : ((o.toNat : Int) == 3) = false := by simp; omega
    have t4 : ((o.toNat : Int) == 4) = false := by simp; omega
    have t5 : ((o.toNat : Int) == 5) = false := by simp; omega
    have t6 : ((o.toNat : Int) == 6) = false := by simp; omega
    have t7 : ((o.toNat : Int) == 7) = true := by simp; omega
    clear h
    go_wp2_with fail
    with_reducible refine (mk_op11 49 w.heap.size w1).mono ?_
    rintro e w2 ⟨g, rfl, hg, hb⟩
    have HG := hide hg
    have HO2 := hide (HO.out.below hb HO.out.lt)
    have HB2 := hide (HB.out.trans (hb.mono HB.out.size))
    clear hg hb
    go_wp2_with fail
    go_ret2
    exact OpR.of (n := 2) rfl rfl (by rw [HA.out]; rfl) (mkP_cmp _ o _ _ (by rw [HA.out]; exact Ev.opn7) HO2.out HG.out) HB2.out
  · have HA := hide (Ev.ar o 8 h)
    have t3 : ((o.toNat : Int) == 3) = false := by simp; omega
    have t4 : ((o.toNat : Int) == 4) = false := by simp; omega
    have t5 : ((o.toNat : Int) == 5) = false := by simp; omega
    have t6 : ((o.toNat : Int) == 6) = false := by simp; omega
    have t7 : ((o.toNat : Int) == 7) = false := by simp; omega
    have t8 : ((o.toNat : Int) == 8) = true := by simp; omega
    clear h
    go_wp2_with fail
    with_reducible refine (mk_op11 49 w.heap.size w1).mono ?_
    rintro e w2 ⟨g, rfl, hg, hb⟩
    have HG := hide hg
    have HO2 := hide (HO.out.below hb HO.out.lt)
    have HB2 := hide (HB.out.trans (hb.mono HB.out.size))
    clear hg hb
    go_wp2_with fail
    go_ret2
    exact OpR.of (n := 2) rfl rfl (by rw [HA.out]; rfl) (mkP_cmp _ o _ _ (by rw [HA.out]; exact Ev.opn8) HO2.out HG.out) HB2.out
  · have HA := hide (Ev.ar o 9 h)
    have t3 : ((o.toNat : Int) == 3) = false := by simp; omega
    have t4 : ((o.toNat : Int) == 4) = false := by simp; omega
    have t5 : ((o.toNat : Int) == 5) = false := by simp; omega
    have t6 : ((o.toNat : Int) == 6) = false := by simp; omega
    have t7 : ((o.toNat : Int) == 7) = false := by simp; omega
    have t8 : ((o.toNat : Int) == 8) = false := by simp; omega
    have t9 : ((o.toNat : Int) == 9) = true := by simp; omega
    clear h
    go_wp2_with fail
    with_reducible refine (mk_op11 49 w.heap.size w1).mono ?_
    rintro e w2 ⟨g, rfl, hg, hb⟩
    have HG := hide hg
    have HO2 := hide (HO.out.below hb HO.out.lt)
    have HB2 := hide (HB.out.trans (hb.mono HB.out.size))
    clear hg hb
    go_wp2_with fail
    go_ret2
    exact OpR.of (n := 2) rfl rfl (by rw [HA.out]; rfl) (mkP_cmp _ o _ _ (by rw [HA.out]; exact Ev.opn9) HO2.out HG.out) HB2.out
  · have HA := hide (Ev.ar o 10 h)
    have t3 : ((o.toNat : Int) == 3) = false := by simp; omega
    have t4 : ((o.toNat : Int) == 4) = false := by simp; omega
    have t5 : ((o.toNat : Int) == 5) = false := by simp; omega
    have t6 : ((o.toNat : Int) == 6) = false := by simp; omega
    have t7 : ((o.toNat : Int) == 7) = false := by simp; omega
    have t8 : ((o.toNat : Int) == 8) = false := by simp; omega
    have t9 : ((o.toNat : Int) == 9) = false := by simp; omega
    have t10 : ((o.toNat : Int) == 10) = true := by simp; omega
    clear h
    go_wp2_with fail
    with_reducible refine (mk_op11 49 w.heap.size w1).mono ?_
    rintro e w2 ⟨g, rfl, hg, hb⟩
    have HG := hide hg
    have HO2 := hide (HO.out.below hb HO.out.lt)
    have HB2 := hide (HB.out.trans (hb.mono HB.out.size))
    clear hg hb
    go_wp2_with fail
    go_ret2
    exact OpR.of (n := 2) rfl rfl (by rw [HA.out]; rfl) (mkP_cmp _ o _ _ (by rw [HA.out]; exact Ev.opn10) HO2.out HG.out) HB2.out
  · have HA := hide (Ev.ar o 11 h)
    have t3 : ((o.toNat : Int) == 3) = false := by simp; omega
    have t4 : ((o.toNat : Int) == 4) = false := by simp; omega
    have t5 : ((o.toNat : Int) == 5) = false := by simp; omega
    have t6 : ((o.toNat : Int) == 6) = false := by simp; omega
    have t7 : ((o.toNat : Int) == 7) = false := by simp; omega
    have t8 : ((o.toNat : Int) == 8) = false := by simp; omega
    have t9 : ((o.toNat : Int) == 9) = false := by simp; omega
    have t10 : ((o.toNat : Int) == 10) = false := by simp; omega
    have t11 : ((o.toNat : Int) == 11) = true := by simp; omega
    clear h
    go_wp2_with fail
    with_reducible refine (mk_op11 49 w.heap.size w1).mono ?_
    rintro e w2 ⟨g, rfl, hg, hb⟩
    have HG := hide hg
    have HO2 := hide (HO.out.below hb HO.out.lt)
    have HB2 := hide (HB.out.trans (hb.mono HB.out.size))
    clear hg hb
    go_wp2_with fail
    go_ret2
    exact OpR.of (n := 2) rfl rfl (by rw [HA.out]; rfl) (mkP_cmp _ o _ _ (by rw [HA.out]; exact Ev.opn11) HO2.out HG.out) HB2.out
  · have HA := hide (Ev.ar o 12 h)
    have t3 : ((o.toNat : Int) == 3) = false := by simp; omega
    have t4 : ((o.toNat : Int) == 4) = false := by simp; omega
    have t5 : ((o.toNat : Int) == 5) = false := by simp; omega
    have t6 : ((o.toNat : Int) == 6) = false := by simp; omega
    have t7 : ((o.toNat : Int) == 7) = false := by simp; omega
    have t8 : ((o.toNat : Int) == 8) = false := by simp; omega
    have t9 : ((o.toNat : Int) == 9) = false := by simp; omega
    have t10 : ((o.toNat : Int) == 10) = false := by simp; omega
    have t11 : ((o.toNat : Int) == 11) = false := by simp; omega
    have t12 : ((o.toNat : Int) == 12) = true := by simp; omega
    clear h
    go_wp2_with fail
    with_reducible refine (mk_op11 49 w.heap.size w1).mono ?_
    rintro e w2 ⟨g, rfl, hg, hb⟩
    have HG := hide hg
    have HO2 := hide (HO.out.below hb HO.out.lt)
    have HB2 := hide (HB.out.trans (hb.mono HB.out.size))
    clear hg hb
    go_wp2_with fail
    go_ret2
    exact OpR.of (n := 2) rfl rfl (by rw [HA.out]; rfl) (mkP_cmp _ o _ _ (by rw [HA.out]; exact Ev.opn12) HO2.out HG.out) HB2.out
  · have HA := hide (Ev.ar o 13 h)
    have t3 : ((o.toNat : Int) == 3) = false := by simp; omega
    have t4 : ((o.toNat : Int) == 4) = false := by simp; omega
    have t5 : ((o.toNat : Int) == 5) = false := by simp; omega
    have t6 : ((o.toNat : Int) == 6) = false := by simp; omega
    have t7 : ((o.toNat : Int) == 7) = false := by simp; omega
    have t8 : ((o.toNat : Int) == 8) = false := by simp; omega
    have t9 : ((o.toNat : Int) == 9) = false := by simp; omega
    have t10 : ((o.toNat : Int) == 10) = false := by simp; omega
    have t11 : ((o.toNat : Int) == 11) = false := by simp; omega
    have t12 : ((o.toNat : Int) == 12) = false := by simp; omega
    have t13 : ((o.toNat : Int) == 13) = true := by simp; omega
    clear h
    go_wp2_with fail
    with_reducible refine (mk_lg 53 w1).mono ?_
    rintro e w2 ⟨g, rfl, hg, hb⟩
    have HG := hide hg
    have HB2 := hide (HB.out.trans (hb.mono HB.out.size))
    clear hg hb
    go_wp2_with fail
    go_ret2
    exact OpR.of (n := 2) rfl rfl (by rw [HA.out]; rfl) (by rw [HA.out]; exact mkP_and _ _ HG.out) HB2.out
  · have HA := hide (Ev.ar o 14 h)
    have t3 : ((o.toNat : Int) == 3) = false := by simp; omega
    have t4 : ((o.toNat : Int) == 4) = false := by simp; omega
    have t5 : ((o.toNat : Int) == 5) = false := by simp; omega
    have t6 : ((o.toNat : Int) == 6) = false := by simp; omega
    have t7 : ((o.toNat : Int) == 7) = false := by simp; omega
    have t8 : ((o.toNat : Int) == 8) = false := by simp; omega
    have t9 : ((o.toNat : Int) == 9) = false := by simp; omega
    have t10 : ((o.toNat : Int) == 10) = false := by simp; omega
    have t11 : ((o.toNat : Int) == 11) = false := by simp; omega
    have t12 : ((o.toNat : Int) == 12) = false := by simp; omega
    have t13 : ((o.toNat : Int) == 13) = false := by simp; omega
    have t14 : ((o.toNat : Int) == 14) = true := by simp; omega
    clear h
    go_wp2_with fail
    with_reducible refine (mk_lg 55 w1).mono ?_
    rintro e w2 ⟨g, rfl, hg, hb⟩
    have HG := hide hg
    have HB2 := hide (HB.out.trans (hb.mono HB.out.size))
    clear hg hb
    go_wp2_with fail
    go_ret2
    exact OpR.of (n := 2) rfl rfl (by rw [HA.out]; rfl) (by rw [HA.out]; exact mkP_or _ _ HG.out) HB2.out
  · have HA := hide (Ev.ar o 15 h)
    have t3 : ((o.toNat : Int) == 3) = false := by simp; omega
    have t4 : ((o.toNat : Int) == 4) = false := by simp; omega
    have t5 : ((o.toNat : Int) == 5) = false := by simp; omega
    have t6 : ((o.toNat : Int) == 6) = false := by simp; omega
    have t7 : ((o.toNat : Int) == 7) = false := by simp; omega
    have t8 : ((o.toNat : Int) == 8) = false := by simp; omega
    have t9 : ((o.toNat : Int) == 9) = false := by simp; omega
    have t10 : ((o.toNat : Int) == 10) = false := by simp; omega
    have t11 : ((o.toNat : Int) == 11) = false := by simp; omega
    have t12 : ((o.toNat : Int) == 12) = false := by simp; omega
    have t13 : ((o.toNat : Int) == 13) = false := by simp; omega
    have t14 : ((o.toNat : Int) == 14) = false := by simp; omega
    have t15 : ((o.toNat : Int) == 15) = true := by simp; omega
    clear h
    go_wp2_with fail
    with_reducible refine (mk_lg 57 w1).mono ?_
    rintro e w2 ⟨g, rfl, hg, hb⟩
    have HG := hide hg
    have HB2 := hide (HB.out.trans (hb.mono HB.out.size))
    clear hg hb
    go_wp2_with fail
    go_ret2
    exact OpR.of (n := 1) rfl rfl (by rw [HA.out]; rfl) (by rw [HA.out]; exact mkP_not _ _ HG.out) HB2.out
  · have HA := hide (Ev.ar o 16 h)
    have t3 : ((o.toNat : Int) == 3) = false := by simp; omega
    have t4 : ((o.toNat : Int) == 4) = false := by simp; omega
    have t5 : ((o.toNat : Int) == 5) = false := by simp; omega
    have t6 : ((o.toNat : Int) == 6) = false := by simp; omega
    have t7 : ((o.toNat : Int) == 7) = false := by simp; omega
    have t8 : ((o.toNat : Int) == 8) = false := by simp; omega
    have t9 : ((o.toNat : Int) == 9) = false := by simp; omega
    have t10 : ((o.toNat : Int) == 10) = false := by simp; omega
    have t11 : ((o.toNat : Int) == 11) = false := by simp; omega
    have t12 : ((o.toNat : Int) == 12) = false := by simp; omega
    have t13 : ((o.toNat : Int) == 13) = false := by simp; omega
    have t14 : ((o.toNat : Int) == 14) = false := by simp; omega
    have t15 : ((o.toNat : Int) == 15) = false := by simp; omega
    have t16 : ((o.toNat : Int) == 16) = true := by simp; omega
    clear h
    go_wp2_with fail
    go_ret2
    exact OpR.of (n := 1) rfl rfl (by rw [HA.out]; rfl) (by rw [HA.out]; exact mkP_null _) HB.out
end Go.Proofs.YticljmgcgjibpaaGreatDoor
