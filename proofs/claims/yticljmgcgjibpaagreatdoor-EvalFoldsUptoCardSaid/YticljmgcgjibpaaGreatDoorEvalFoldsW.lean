/-
  The walks of chancerykit.CopyRows and SameRows (of equal rows). Conditions: what is read reads as rows of values that a copy may hold.
-/
import Derived.Test.YticljmgcgjibpaaGreatDoorRowsE
import Derived.Test.YticljmgcgjibpaaGreatDoorSmE
import Derived.Test.YticljmgcgjibpaaGreatDoorTold
import Derived.Test.YticljmgcgjibpaaGreatDoorRfG
namespace Go.Proofs.YticljmgcgjibpaaGreatDoor
open Go.RowKit

theorem own_rvp {w : World} {base n c : Nat} {A : Option Addr} {r : List Cell.Val} (h : w.ownsRow base 25 3 (.slice A n c) n (vcells r)) (hr : ∀ v ∈ r, vOk v) : Rvp w (fun g => base ≤ g ∧ g < w.heap.size) A n r := by
  have hl : (vcells r).length = n * 3 := h.1
  rw [vcells_len] at hl
  refine ⟨by omega, hr, fun h0 => ?_⟩
  obtain ⟨b, off, e, hb, hc⟩ := (Rd.own h).2 h0
  subst e
  exact ⟨b, off, rfl, h.lt b rfl, hc⟩
theorem rtake_snoc (l : List (List Cell.Val)) (k : Nat) (x : List Cell.Val) (h : l[k]? = some x) : l.take k ++ [x] = l.take (k + 1) := by
  rw [List.take_add_one, h]
  rfl
theorem rws_one {w : World} {P : Nat → Prop} {g c : Nat} {A : Option Addr} {r : List Cell.Val} (hb : Blk w g 30 #[.slice A r.length c]) (hg : P g) (h1 : r.length ≤ c) (h2 : c ≤ 9223372036854775807) (hr : Rvp w P A r.length r) : Rws w P (some ⟨g, 0, none⟩) 1 [r] := by
  refine ⟨rfl, by decide, fun _ => ⟨g, 0, rfl, hg, fun i r' hi => ?_⟩⟩
  match i with
  | 0 =>
    injection hi with hi
    subst hi
    exact ⟨A, c, by rw [Nat.zero_add]; exact hb.cell 0, h1, h2, hr⟩
  | i + 1 => simp at hi
set_option linter.unusedVariables false in
set_option maxRecDepth 1000000 in
set_option maxHeartbeats 4000000 in
theorem copyRows_any (A : Option Addr) (n c : Nat) (rs : List (List Cell.Val)) (w : World) (hr : Rws w (· < w.heap.size) A n rs) (hb : ∀ r ∈ rs, r.length * 32 ≤ 140737488355328) :
    Calls Tryz.prog 14 #[.slice A n c] w fun e w' => ∃ A' c', e = .returned (.slice A' n c') ∧ n ≤ c' ∧ c' ≤ 9223372036854775807 ∧ Rws w' (· < w'.heap.size) A' n rs ∧ Below w.heap.size w w' := by
  have HR := hide hr
  have HL := hide hr.1
  have hml := hr.2.1
  have HBs := hide hb
  clear hr hb
  go_enter Tryz.func14, Tryz.ntmps14
  go_wp2_with fail
  go_loopg [3, 4] n (fun gg v i wr => ∃ (k : Nat), k ≤ n ∧ gg = n - k ∧ i = .int .i64 (k : Nat) ∧ Hid (RwOwn wr w.heap.size (w.heap.size ≤ ·) v (rs.take k)) ∧ Below w.heap.size w wr)
  case atStart => exact ⟨0, Nat.zero_le _, rfl, rfl, RwOwn.nil _ _ _, Below.refl _ _⟩
  case round =>
    obtain ⟨k, hk, rfl, rfl, HO, hbel⟩ := hrel
    obtain ⟨w5, hw5⟩ : ∃ w5, w5 = wr := ⟨_, rfl⟩
    subst hw5
    have HB := hide hbel
    have hs5 := hbel.size
    clear hbel
    by_cases hlt : k < n
    · obtain ⟨g, off, r, A1, c1, rfl, hg, hrk, a0, e1, e2, hv⟩ := HR.out.at hlt
      replace a0 := (HB.out.cell (p := ⟨g, off + k, none⟩) hg).trans a0
      have HK := hide hrk
      have HV := hide hv
      have hb32 := HBs.out r (List.mem_of_getElem? hrk)
      clear hrk e1 e2 hv
      go_wp2_with fail
      with_reducible refine (copyRow_any A1 r.length c1 r w5 ((HV.out.rv (fun _ h => h)).next HB.out) hb32).mono ?_
      rintro e w6 ⟨v6, rfl, hown, hb6⟩
      obtain ⟨A2, c2, e6, _, k1, k2⟩ := own_form hown
      subst e6
      have HQ : Hid (Rvp w6 (fun g => w5.heap.size ≤ g ∧ g < w6.heap.size) A2 r.length r) := own_rvp hown HV.out.2.1
      have H12 := hide (And.intro k1 (show c2 ≤ 9223372036854775807 by unfold maxLen at k2; omega))
      have HB56 := hide hb6
      have hs6 := hb6.size
      have HO6 := hide (HO.out.below hb6)
      have HOb : Hid (∀ g, u3.ownBlock = some g → g < w5.heap.size) := fun g hg => (HO.out.lt hg).2
      clear hown hb6 k1 k2 a0
      obtain ⟨w7, hw7⟩ : ∃ w7, w7 = w6.alloc (.cells #[.slice A2 r.length c2] 30) := ⟨_, rfl⟩
      have HG7 : Hid (Blk w7 w6.heap.size 30 #[.slice A2 r.length c2]) := by rw [hw7]; exact Blk.new _ _ _
      have hb7 : Below w6.heap.size w6 w7 := by rw [hw7]; exact (Below.refl _ _).alloc (Nat.le_refl _) _
      have HO7 := hide (HO6.out.below hb7)
      have HB7 := hide ((HB.out.trans (HB56.out.mono hs5)).trans (hb7.mono (by omega)))
      have hs7 := hb7.size
      have hg7 := HG7.out.lt
      have hme := HL.out
      have hkl : (rs.take k).length = k := by rw [List.length_take]; omega
      have HU : Hid (Rws w7 (fun g => w5.heap.size ≤ g ∧ g < w7.heap.size) (some ⟨w6.heap.size, 0, none⟩) 1 [r]) := rws_one HG7.out ⟨hs6, hg7⟩ H12.out.1 H12.out.2 (HQ.out.keep (fun g hg => ⟨hg.1, by have := hg.2; omega⟩) (fun g o hg => hb7.cell hg.2))
      have HP : Hid (∀ g, (w5.heap.size ≤ g ∧ g < w7.heap.size) → w.heap.size ≤ g ∧ g < w7.heap.size ∧ some g ≠ u3.ownBlock) := fun g hg => ⟨by have := hg.1; omega, hg.2, fun e => by have := HOb.out g e.symm; have := hg.1; omega⟩
      have HT := hide (rtake_snoc rs k _ HK.out)
      clear hb7 hme
      go_wp2_with (at_builtin; rw [← hw7]; refine wpList_appRw rfl (.tmp 11) (.tmp 17) Tryz.underlying43 rfl w.heap.size _ _ (rs.take k) rfl HO7.out _ 1 1 [r] _ rfl HU.out HP.out (by omega) (by omega) ?_; intro v9 w9 ho9 hb9; have HO9 := hide ho9; have HB9 := hide (HB7.out.trans hb9); clear ho9 hb9)
      go_roundg (n - (k + 1))
      case measure => omega
      case rel => exact ⟨k + 1, by omega, rfl, by go_num, by rw [← HT.out]; exact HO9.out, HB9.out⟩
    · obtain rfl : k = n := by omega
      obtain ⟨A1, c1, e1, h1, h2⟩ := HO.out.form
      have htk : rs.take k = rs := List.take_of_length_le (by rw [HL.out]; exact Nat.le_refl _)
      rw [htk] at e1 h1
      have hkl : rs.length = k := HL.out.symm
      rw [hkl] at e1 h1
      subst e1
      have H12 := hide (And.intro h1 h2)
      have HRw : Hid (Rws w5 (· < w5.heap.size) A1 k rs) := by
        have := HO.out
        rw [htk] at this
        exact this.rws hkl.symm hml
      clear h1 h2
      go_wp2_with fail
      go_ret
      exact ⟨A1, c1, rfl, H12.out.1, H12.out.2, HRw.out, HB.out⟩
set_option linter.unusedVariables false in
set_option maxRecDepth 1000000 in
set_option maxHeartbeats 4000000 in
theorem sameRows_eq (A A' : Option Addr) (n c c' : Nat) (rs : List (List Cell.Val)) (w : World) (hr : Rws w (· < w.heap.size) A n rs) (hr' : Rws w (· < w.heap.size) A' n rs) :
    Calls Tryz.prog 17 #[.slice A n c, .slice A' n c'] w fun e w' => e = .returned (.bool true) ∧ Below w.heap.size w w' := by
  have HX := hide hr
  have HX' := hide hr'
  have hml := hr.2.1
  have t0 : ((n : Int) != (n : Int)) = false := by simp
  clear hr hr'
  go_enter Tryz.func17, Tryz.ntmps17
  go_wp2_with fail
  go_loopg [5] n (fun gg i wr => ∃ (k : Nat), k ≤ n ∧ gg = n - k ∧ i = .int .i64 (k : Nat) ∧ Below w.heap.size w wr)
  case atStart => exact ⟨0, Nat.zero_le _, rfl, rfl, Below.refl _ _⟩
  case round =>
    obtain ⟨k, hk, rfl, rfl, hbel⟩ := hrel
    obtain ⟨w5, hw5⟩ : ∃ w5, w5 = wr := ⟨_, rfl⟩
    subst hw5
    have HB := hide hbel
    have hs5 := hbel.size
    clear hbel
    by_cases hlt : k < n
    · obtain ⟨g, off, r, A1, c1, rfl, hg, hrk, a0, e1, e2, hv⟩ := HX.out.at hlt
      obtain ⟨g', off', r', A2, c2, rfl, hg', hrk', b0, e1', e2', hv'⟩ := HX'.out.at hlt
      rw [hrk] at hrk'
      injection hrk' with hrk'
      subst hrk'
      replace a0 := (HB.out.cell (p := ⟨g, off + k, none⟩) hg).trans a0
      replace b0 := (HB.out.cell (p := ⟨g', off' + k, none⟩) hg').trans b0
      have HE : Hid (Rv w w.heap.size A1 r.length r) := hv.rv (fun _ h => h)
      have HF : Hid (Rv w w.heap.size A2 r.length r) := hv'.rv (fun _ h => h)
      have hag : g < w5.heap.size := Nat.lt_of_lt_of_le hg hs5
      have hbg : g' < w5.heap.size := Nat.lt_of_lt_of_le hg' hs5
      clear hrk e1' e2' hv hv'
      go_upto_region 6 with fail
      have hTs := tab_stable (l := [(8, NoF)]) (fun p hp => by
          simp only [List.mem_cons, List.not_mem_nil, or_false] at hp
          subst hp
          exact NoF.stable)
      have hSs := shp_some (l := [(8, IsV (.bool true))]) (fun p hp => by
          simp only [List.mem_cons, List.not_mem_nil, or_false] at hp
          subst hp
          exact IsV.some _)
      have HTs := hide hTs
      have HSs := hide hSs
      clear hTs hSs
      refine wp_region_toldL (tab [(8, NoF)]) (Up w5) (w5.heap.size) 10 (shp [(8, IsV (.bool true))]) (HSs.out) (HTs.out) (Up.lives _) Gro (Gro.turns (Up.lives _) (HTs.out)) (by kernel_rfl) (by kernel_rfl) (Up.start _) (Nat.le_refl _) ?_
      simp only [List.take_succ_cons, List.take_zero, List.drop_succ_cons, List.drop_zero]
      refine wpTold_read ?_ rfl rfl (fun w' hS => ?_) ?_
      rotate_left
      · go_simp
        rfl
      go_frame
      refine wpTold_read ?_ rfl rfl (fun w' hS => ?_) ?_
      rotate_left
      · go_simp
        rfl
      go_frame
      refine wpTold_read ?_ rfl rfl (fun w' hS => ?_) ?_
      rotate_left
      · go_simp
        rfl
      go_frame
      refine wpTold_read ?_ rfl rfl (fun w' hS => ?_) ?_
      rotate_left
      · have l0 := (hS.cell (p := ⟨g, off + k, none⟩) hag).trans a0
        go_simp
        rfl
      go_frame
      refine wpTold_read ?_ rfl rfl (fun w' hS => ?_) ?_
      rotate_left
      · go_simp
        rfl
      go_frame
      refine wpTold_read ?_ rfl rfl (fun w' hS => ?_) ?_
      rotate_left
      · go_simp
        rfl
      go_frame
      refine wpTold_read ?_ rfl rfl (fun w' hS => ?_) ?_
      rotate_left
      · go_simp
        rfl
      go_frame
      refine wpTold_read ?_ rfl rfl (fun w' hS => ?_) ?_
      rotate_left
      · have l0 := (hS.cell (p := ⟨g', off' + k, none⟩) hbg).trans b0
        go_simp
        rfl
      go_frame
      refine' wpTold_call _ _ _ rfl rfl (fun w' => ?_) (fun w' hS hh hs => ?_) (fun v8 h8 => ?_)
      rotate_left 2
      · go_simp
        constructor <;> rfl
      · refine (sameRow_any A1 A2 r.length c1 r.length c2 r r w' _ _ ((HE.out.next HB.out).next hS) ((HF.out.next HB.out).next hS) (by omega)).mono ?_
        rintro e w9 ⟨bb, rfl, hbb, qq, rfl⟩
        obtain rfl : bb = true := hbb.2 rfl
        exact ⟨_, rfl, ⟨rfl, trivial⟩, ⟨rfl, rfl, rfl, Nat.le_refl _, fun _ _ => rfl⟩⟩
      obtain rfl := h8
      go_frame
      refine wpTold_read ?_ rfl rfl (fun w' hS => ?_) ?_
      rotate_left
      · go_simp
        rfl
      go_frame
      refine wpTold_nil fun w6 hH => ?_
      have hup : Below w5.heap.size w5 w6 := hH.s
      have HB6 := hide (HB.out.trans (hup.mono hs5))
      clear hH hup a0 b0
      go_wp2_with fail
      go_roundg (n - (k + 1))
      case measure => omega
      case rel => exact ⟨k + 1, by omega, rfl, by go_num, HB6.out⟩
    · obtain rfl : k = n := by omega
      go_wp2_with fail
      go_ret
      exact ⟨rfl, HB.out⟩
end Go.Proofs.YticljmgcgjibpaaGreatDoor

/-
  The walk of the law EvalFolds: it returns true. Conditions: the tables are laid; what is handed in reads as a tree, and as rows of values that a copy may hold.
-/
namespace Go.Proofs.YticljmgcgjibpaaGreatDoor
open Go.RowKit

theorem ExK.all {w : World} {P : Nat → Prop} {d m : Nat} {A : Option Addr} {ks : List Ev.Ex} (h : ExK w (fun g => P g ∧ g < w.heap.size) d A m ks) : ExK w (· < w.heap.size) d A m ks := ExK.keep (fun _ hg => hg.2) (fun _ _ _ => rfl) h
set_option linter.unusedVariables false in
set_option maxRecDepth 1000000 in
set_option maxHeartbeats 4000000 in
theorem evalFolds_any (eh : Ev.Hd) (A : Option Addr) (m c d : Nat) (ks : List Ev.Ex) (Ar : Option Addr) (nr cr : Nat) (r : List (List Cell.Val)) (role : ByteArray) (w : World) (hE : Env w) (hex : ExK w (· < w.heap.size) d A m ks) (hok : HdOk eh) (hmc : m ≤ c) (hc2 : c ≤ 9223372036854775807) (hr : Rws w (· < w.heap.size) Ar nr r) (_ : nr ≤ 1048576) (hru : ∀ x ∈ r, x.length ≤ 1048576) (hrz : role.size ≤ 140737488355328) (_ : role.size ≤ 1048576) :
    Calls Tryz.prog 4 #[exV eh A m c, .slice Ar nr cr, .string role] w fun e w' => e = .returned (.bool true) ∧ Below w.heap.size w w' := by
  have hro : role.size ≤ 9223372036854775807 := by omega
  have hb0 : ∀ x ∈ r, x.length * 32 ≤ 140737488355328 := fun x hx => by have := hru x hx; omega
  have C := hide hex
  have HOk := hide hok
  have HRv := hide hr
  have HE := hide hE
  have HBs := hide hb0
  clear hb0
  clear hex hok hr hE
  unfold exV
  obtain ⟨w1, hw1⟩ : ∃ x, x = w.alloc (.cells #[.int .u8 (eh.o.toNat : Int), .int .u8 (eh.v.k.toNat : Int), .int .i64 eh.v.n, .string eh.v.s, .string eh.nm, .string eh.of, .int .i64 eh.n, .slice A m c] 28) := ⟨_, rfl⟩
  have HG : Hid (Blk w1 w.heap.size 28 #[.int .u8 (eh.o.toNat : Int), .int .u8 (eh.v.k.toNat : Int), .int .i64 eh.v.n, .string eh.v.s, .string eh.nm, .string eh.of, .int .i64 eh.n, .slice A m c]) := by rw [hw1]; exact Blk.new _ _ _
  have HB : Hid (Below w.heap.size w w1) := by rw [hw1]; exact al _ _
  go_enter Tryz.func4, Tryz.ntmps4
  go_upto_region 1 with fail
  rw [← hw1]
  clear hw1
  have x0 := HG.out.cell 0
  have x1 := HG.out.cell 1
  have x2 := HG.out.cell 2
  have x3 := HG.out.cell 3
  have x4 := HG.out.cell 4
  have x5 := HG.out.cell 5
  have x6 := HG.out.cell 6
  have x7 := HG.out.cell 7
  simp at x0 x1 x2 x3 x4 x5 x6 x7
  go_wp2_with fail
  have cc := copyExpr_any d eh A m c ks w1 (C.out.next HB.out)
  unfold exV at cc
  with_reducible refine cc.mono ?_
  clear cc
  rintro e w2 ⟨A2, c2, rfl, q1, q2, q3, hb⟩
  have HCx := hide q3.all
  have HQ := hide (And.intro q1 q2)
  clear q1 q2 q3 x0 x1 x2 x3 x4 x5 x6 x7
  replace HB := hide (HB.out.trans (hb.mono HB.out.size))
  replace HG := hide (HG.out.below hb HG.out.lt)
  clear hb
  go_wp2_with fail
  with_reducible refine (copyRows_any Ar nr cr r w2 (HRv.out.next HB.out) HBs.out).mono ?_
  rintro e w3 ⟨A3, c3, rfl, _, _, hcr, hb⟩
  have HCr := hide hcr
  clear hcr
  replace HB := hide (HB.out.trans (hb.mono HB.out.size))
  replace HG := hide (HG.out.below hb HG.out.lt)
  replace HCx := hide (HCx.out.next hb)
  clear hb
  obtain ⟨w4, hw4⟩ : ∃ x, x = w3.alloc (.cells #[.int .u8 (eh.o.toNat : Int), .int .u8 (eh.v.k.toNat : Int), .int .i64 eh.v.n, .string eh.v.s, .string eh.nm, .string eh.of, .int .i64 eh.n, .slice A2 m c2] 28) := ⟨_, rfl⟩
  have HY : Hid (Blk w4 w3.heap.size 28 #[.int .u8 (eh.o.toNat : Int), .int .u8 (eh.v.k.toNat : Int), .int .i64 eh.v.n, .string eh.v.s, .string eh.nm, .string eh.of, .int .i64 eh.n, .slice A2 m c2]) := by rw [hw4]; exact Blk.new _ _ _
  have hb : Below w3.heap.size w3 w4 := by rw [hw4]; exact al _ _
  replace HB := hide (HB.out.trans (hb.mono HB.out.size))
  replace HG := hide (HG.out.below hb HG.out.lt)
  replace HCx := hide (HCx.out.next hb)
  replace HCr := hide (HCr.out.next hb)
  clear hb
  obtain ⟨gy, hgy⟩ : ∃ g, g = w3.heap.size := ⟨_, rfl⟩
  rw [← hgy] at HY
  go_upto_region 2 with fail
  rw [← hw4, ← hgy]
  clear hw4 hgy
  have y0 := HY.out.cell 0
  have y1 := HY.out.cell 1
  have y2 := HY.out.cell 2
  have y3 := HY.out.cell 3
  have y4 := HY.out.cell 4
  have y5 := HY.out.cell 5
  have y6 := HY.out.cell 6
  have y7 := HY.out.cell 7
  simp at y0 y1 y2 y3 y4 y5 y6 y7
  obtain ⟨⟨⟨k, n, s⟩, er⟩, hp⟩ : ∃ p, p = Ev.fold eh ks r role := ⟨_, rfl⟩
  have HP := hide hp
  clear hp
  go_wp2_with fail
  have cc := fold_any d eh ks A2 m c2 A3 nr c3 r role w4 HCx.out HOk.out HQ.out.1 HQ.out.2 HCr.out hro (HE.out.next HB.out)
  rw [← HP.out, ansV_mk] at cc
  unfold exV at cc
  with_reducible refine cc.mono ?_
  clear cc y0 y1 y2 y3 y4 y5 y6 y7
  rintro e w5 ⟨rfl, hb⟩
  replace HB := hide (HB.out.trans (hb.mono HB.out.size))
  replace HG := hide (HG.out.below hb HG.out.lt)
  replace HCx := hide (HCx.out.next hb)
  replace HCr := hide (HCr.out.next hb)
  replace HY := hide (HY.out.below hb HY.out.lt)
  clear hb
  obtain ⟨w6, hw6⟩ : ∃ x, x = w5.alloc (.cells #[.int .u8 (k.toNat : Int), .int .i64 n, .string s] 25) := ⟨_, rfl⟩
  have HV : Hid (Blk w6 w5.heap.size 25 #[.int .u8 (k.toNat : Int), .int .i64 n, .string s]) := by rw [hw6]; exact Blk.new _ _ _
  have hb : Below w5.heap.size w5 w6 := by rw [hw6]; exact al _ _
  replace HB := hide (HB.out.trans (hb.mono HB.out.size))
  replace HG := hide (HG.out.below hb HG.out.lt)
  replace HCx := hide (HCx.out.next hb)
  replace HCr := hide (HCr.out.next hb)
  replace HY := hide (HY.out.below hb HY.out.lt)
  clear hb
  obtain ⟨gv, hgv⟩ : ∃ g, g = w5.heap.size := ⟨_, rfl⟩
  rw [← hgv] at HV
  go_upto_region 3 with fail
  rw [← hw6, ← hgv]
  clear hw6 hgv
  have x0 := HG.out.cell 0
  have x1 := HG.out.cell 1
  have x2 := HG.out.cell 2
  have x3 := HG.out.cell 3
  have x4 := HG.out.cell 4
  have x5 := HG.out.cell 5
  have x6 := HG.out.cell 6
  have x7 := HG.out.cell 7
  simp at x0 x1 x2 x3 x4 x5 x6 x7
  go_wp2_with fail
  have cc := rfold_any d eh ks A m c Ar nr cr r role w6 (C.out.next HB.out) HOk.out (HRv.out.next HB.out) hro
  rw [← HP.out, ansV_mk] at cc
  unfold exV at cc
  with_reducible refine cc.mono ?_
  clear cc x0 x1 x2 x3 x4 x5 x6 x7
  rintro e w7 ⟨rfl, hb⟩
  replace HB := hide (HB.out.trans (hb.mono HB.out.size))
  replace HG := hide (HG.out.below hb HG.out.lt)
  replace HCx := hide (HCx.out.next hb)
  replace HCr := hide (HCr.out.next hb)
  replace HY := hide (HY.out.below hb HY.out.lt)
  replace HV := hide (HV.out.below hb HV.out.lt)
  clear hb
  obtain ⟨w8, hw8⟩ : ∃ x, x = w7.alloc (.cells #[.int .u8 (k.toNat : Int), .int .i64 n, .string s] 25) := ⟨_, rfl⟩
  have HW : Hid (Blk w8 w7.heap.size 25 #[.int .u8 (k.toNat : Int), .int .i64 n, .string s]) := by rw [hw8]; exact Blk.new _ _ _
  have hb : Below w7.heap.size w7 w8 := by rw [hw8]; exact al _ _
  replace HB := hide (HB.out.trans (hb.mono HB.out.size))
  replace HG := hide (HG.out.below hb HG.out.lt)
  replace HCx := hide (HCx.out.next hb)
  replace HCr := hide (HCr.out.next hb)
  replace HY := hide (HY.out.below hb HY.out.lt)
  replace HV := hide (HV.out.below hb HV.out.lt)
  clear hb
  obtain ⟨gw, hgw⟩ : ∃ g, g = w7.heap.size := ⟨_, rfl⟩
  rw [← hgw] at HW
  go_upto_region 4 with fail
  rw [← hw8, ← hgw]
  clear hw8 hgw
  have x0 := HG.out.cell 0
  have x1 := HG.out.cell 1
  have x2 := HG.out.cell 2
  have x3 := HG.out.cell 3
  have x4 := HG.out.cell 4
  have x5 := HG.out.cell 5
  have x6 := HG.out.cell 6
  have x7 := HG.out.cell 7
  simp at x0 x1 x2 x3 x4 x5 x6 x7
  have y0 := HY.out.cell 0
  have y1 := HY.out.cell 1
  have y2 := HY.out.cell 2
  have y3 := HY.out.cell 3
  have y4 := HY.out.cell 4
  have y5 := HY.out.cell 5
  have y6 := HY.out.cell 6
  have y7 := HY.out.cell 7
  simp at y0 y1 y2 y3 y4 y5 y6 y7
  have v0 := HV.out.cell 0
  have v1 := HV.out.cell 1
  have v2 := HV.out.cell 2
  simp at v0 v1 v2
  have u0 := HW.out.cell 0
  have u1 := HW.out.cell 1
  have u2 := HW.out.cell 2
  simp at u0 u1 u2
  have e1 : (binOp .eql 25 (.agg #[.int .u8 (k.toNat : Int), .int .i64 n, .string s]) (.agg #[.int .u8 (k.toNat : Int), .int .i64 n, .string s])).run Tryz.prog w8 = .ok (.bool true) w8 := by
    rw [eqlV w8 ⟨k, n, s⟩ ⟨k, n, s⟩, (vbeq_iff _ _).2 rfl]
  have e2 := guardV
  go_wp2_with fail
  have cc := sameExpr_any d eh A2 A m c2 c ks w8 HCx.out (C.out.next HB.out)
  unfold exV at cc
  with_reducible refine cc.mono ?_
  clear cc e1 x0 x1 x2 x3 x4 x5 x6 x7 y0 y1 y2 y3 y4 y5 y6 y7 v0 v1 v2 u0 u1 u2
  rintro e w11 ⟨rfl, hb⟩
  replace HB := hide (HB.out.trans (hb.mono HB.out.size))
  replace HG := hide (HG.out.below hb HG.out.lt)
  replace HCx := hide (HCx.out.next hb)
  replace HCr := hide (HCr.out.next hb)
  replace HY := hide (HY.out.below hb HY.out.lt)
  replace HV := hide (HV.out.below hb HV.out.lt)
  replace HW := hide (HW.out.below hb HW.out.lt)
  clear hb
  go_wp2_with fail
  with_reducible refine (sameRows_eq A3 Ar nr c3 cr r w11 HCr.out (HRv.out.next HB.out)).mono ?_
  rintro e w12 ⟨rfl, hb⟩
  replace HB := hide (HB.out.trans (hb.mono HB.out.size))
  replace HG := hide (HG.out.below hb HG.out.lt)
  replace HCx := hide (HCx.out.next hb)
  replace HCr := hide (HCr.out.next hb)
  replace HY := hide (HY.out.below hb HY.out.lt)
  replace HV := hide (HV.out.below hb HV.out.lt)
  replace HW := hide (HW.out.below hb HW.out.lt)
  clear hb
  go_wp2_with fail
  with_reducible refine (awake_any _ (HE.out.next HB.out)).mono ?_
  rintro e w13 ⟨rfl, hb⟩
  replace HB := hide (HB.out.trans (hb.mono HB.out.size))
  replace HG := hide (HG.out.below hb HG.out.lt)
  replace HCx := hide (HCx.out.next hb)
  replace HCr := hide (HCr.out.next hb)
  replace HY := hide (HY.out.below hb HY.out.lt)
  replace HV := hide (HV.out.below hb HV.out.lt)
  replace HW := hide (HW.out.below hb HW.out.lt)
  clear hb
  go_wp2_with fail
  go_ret
  exact ⟨rfl, HB.out⟩
end Go.Proofs.YticljmgcgjibpaaGreatDoor
