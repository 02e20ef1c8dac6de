/-
  PageMap: a put: the room, the answer. Conditions: none.
-/
import Derived.Test.YtpoilndlfbmhgaaMapD
namespace Go.Proofs.Ytpoilndlfbmhgaa
open Go.RowKit

noncomputable def pmX4 : Code := cR pmX3
noncomputable def pmX5 : Code := cR pmX4
noncomputable def pmX6 : Code := cR pmX5
noncomputable def pmX7 : Code := cR pmX6
noncomputable def pmX8 : Code := cR pmX7
noncomputable def pmX9 : Code := cR pmX8
noncomputable def pmX10 : Code := cR pmX9
noncomputable def pmX11 : Code := cR pmX10
/-- Behind a put that was not refused: the page has the pair; the rows are without it. -/
structure MP (w : World) (kd : UInt8) (b : Value) (A B : Option Addr) (nn cA cB : Nat) (wr : World) (bs : List UInt8) (p : Pag.Pg) (ks vs : Pag.Txs) (key val : List UInt8) : Prop where
  own : Ow wr w.heap.size b bs
  unp : Pag.unpB bs = some p
  kind : p.kind = kd
  next : p.next = 7
  mp : Pag.Mp p.cells (ks ++ [key]) (vs ++ [val])
  ra : TR wr w.heap.size w.heap.size A nn cA ks
  rb : TR wr w.heap.size w.heap.size B nn cB vs
  ab : ∀ g, blk A = some g → blk B ≠ some g
  bel : Below w.heap.size w wr
/-- The row at z, if any, taken out. -/
def outZ (ks : Pag.Txs) (z : Int) : Pag.Txs := if z = -1 then ks else ks.take z.toNat ++ ks.drop (z.toNat + 1)
theorem outZ_no (ks : Pag.Txs) : outZ ks (-1) = ks := rfl
theorem outZ_at (ks : Pag.Txs) (i : Nat) : outZ ks (i : Int) = ks.take i ++ ks.drop (i + 1) := by
  unfold outZ
  rw [if_neg (by omega)]
  rfl
theorem may_sizes {key val : List UInt8} (h : Pag.mayB key val = true) : 1 ≤ key.length ∧ key.length ≤ 320 ∧ val.length ≤ 576 := by
  unfold Pag.mayB at h
  simpa [and_assoc] using h
theorem room_le {p : Pag.Pg} {bs : List UInt8} (h : Pag.unpB bs = some p) : Pag.roomB bs = (4072 - (Pag.taken p.cells : Int), 0) ∧ Pag.taken p.cells ≤ 4072 := ⟨Pag.roomB_some h, (Pag.unpB_right h).2.1⟩
theorem body_le {p : Pag.Pg} {bs : List UInt8} (h : Pag.unpB bs = some p) {c : Pag.Ce} (hc : c ∈ p.cells) : c.2.length ≤ 576 := by
  obtain ⟨h1, _, _⟩ := Pag.unpB_right h
  exact (may_sizes (Pag.rise_may p.cells (Pag.right_rise h1) c hc)).2.2
/-- What the put needs, beside the room. -/
def NeedI (p : Pag.Pg) (key val : List UInt8) (R N : Int) : Prop := N ≤ R ↔ Pag.taken (Pag.putN p.cells key val) ≤ 4072
theorem need_no {p : Pag.Pg} {key val : List UInt8} {T nk nv : Nat} (hh : Pag.hasB p.cells key = false) (hT : T = Pag.taken p.cells) (hk : nk = key.length) (hv : nv = val.length) : NeedI p key val (4072 - (T : Int)) (6 + (nk : Int) + (nv : Int)) := by
  unfold NeedI
  rw [Pag.taken_putNo hh, ← hT, ← hk, ← hv]
  omega
theorem need_yes {p : Pag.Pg} {bs key val old : List UInt8} {T nv fo : Nat} {ks vs : Pag.Txs} {i : Nat} (hu : Pag.unpB bs = some p) (hm : Pag.Mp p.cells ks vs) (hk : ks[i]? = some key) (ho : vs[i]? = some old) (hT : T = Pag.taken p.cells) (hv : nv = val.length) (hf : fo = old.length) : NeedI p key val (4072 - (T : Int)) ((nv : Int) - (fo : Int)) := by
  unfold NeedI
  have hr := Pag.right_rise (Pag.unpB_right hu).1
  obtain ⟨h1, h2⟩ := hm.at hr hk ho
  have := Pag.taken_putYes (val := val) hr h1 h2
  omega
set_option linter.unusedVariables false in
set_option maxRecDepth 1000000 in
set_option maxHeartbeats 16000000 in
theorem pm_e1 {w : World} {A0 : Option Addr} {n c : Nat} {os : List Op1} {kd : UInt8} {Ab : Option Addr} {cb : Nat} {A B : Option Addr} {nn cA cB j : Nat} {w2 : World} {bs : List UInt8} {p : Pag.Pg} {ks vs : Pag.Txs} {go kz : Nat} {kv : Int} {Ak Av : Option Addr} {nk ck nv cv : Nat} {key val : List UInt8} {z : Int} {Q : Exit → Act → World → Prop} {a : Act} (Y : Code) (hF : Fr a (live A0 n c kd (.slice Ab 4080 cb) A B nn cA cB j ++ [(11, .pointer (some ⟨go, 0, none⟩)), (12, .int .i64 z)])) (HI : MI w kd (.slice Ab 4080 cb) A B nn cA cB w2 bs p ks vs) (HO : OpI w w2 go kz kv Ak Av nk ck nv cv key val) (hnn : nn ≤ 60) (hk : Pag.mayB key val = true) (hz : AtI ks key nn z)
    (h2 : ∀ a' w' R N, Fr a' (live A0 n c kd (.slice Ab 4080 cb) A B nn cA cB j ++ [(11, .pointer (some ⟨go, 0, none⟩)), (12, .int .i64 z), (17, .int .i64 R), (19, .int .i64 N)]) → MI w kd (.slice Ab 4080 cb) A B nn cA cB w' bs p ks vs → OpI w w' go kz kv Ak Av nk ck nv cv key val → NeedI p key val R N → Y.wp Try.prog Q a' w') :
    (Code.seq (cL pmX4) (Code.seq (cL pmX5) (Code.seq (cL pmX6) Y))).wp Try.prog Q a w2 := by
  conv => arg 2; arg 1; whnf
  conv => arg 2; arg 2; arg 1; whnf
  conv => arg 2; arg 2; arg 2; arg 1; whnf
  obtain ⟨f, rfl, ⟨s0, s5, s6, s8, s9, s10, s11, s12, _⟩, hfr⟩ := hF.open
  rw [hfr] at s0 s5 s6 s8 s9 s10 s11 s12
  rw [s0, s5, s6, s8, s9, s10, s11, s12]
  clear hF hfr s0 s5 s6 s8 s9 s10 s11 s12
  have H2 := hide h2
  have hs2 := HI.bel.size
  have HMI := hide HI
  have HOI := hide HO
  have hbl := unp_len HI.unp
  obtain ⟨hc1, hc2⟩ := HI.cap
  have hr := Pag.right_rise (Pag.unpB_right HI.unp).1
  have HR := hide hr
  have HBl := hide hbl
  have HNk := hide HI.ra.1
  have hgo := HO.blk.lt
  have hck1 := HO.ck1
  have hck2 := HO.ck2
  have hcv1 := HO.cv1
  have hcv2 := HO.cv2
  obtain ⟨hm1, hm2, hm3⟩ := may_sizes hk
  rw [← HO.lk] at hm1 hm2
  rw [← HO.lv] at hm3
  obtain ⟨T, hT⟩ : ∃ T, T = Pag.taken p.cells := ⟨_, rfl⟩
  obtain ⟨hro, hT2⟩ := room_le HI.unp
  rw [← hT] at hro hT2
  have HTa := hide hT
  have HRo := hide hro
  have HZ := hide hz
  clear h2 HI HO hr hbl hk hT hro hz
  go_wp2_with fail
  with_reducible refine (room_any Ab 4080 cb bs _ (HMI.out.bytes HBl.out) (by omega) hc1 hc2).mono ?_
  rintro e w3 ⟨hb3, rfl⟩
  rw [HRo.out]
  simp only
  have hs3 := hb3.size
  have HI3 := hide (HMI.out.below hb3)
  have HO3 := hide (HOI.out.below hb3 hs2)
  have o1 := HO3.out.blk.cell 1
  have o2 := HO3.out.blk.cell 2
  simp at o1 o2
  have hgo3 := HO3.out.blk.lt
  clear hb3
  obtain ⟨R, hR⟩ : ∃ R : Int, R = 4072 - (T : Int) := ⟨_, rfl⟩
  rw [← hR]
  have HRe := hide hR
  clear hR
  rcases HZ.out with ⟨rfl, hno⟩ | ⟨i, hi, rfl, hat⟩
  · have hh : Pag.hasB p.cells key = false := HMI.out.mp.no (AtI.no HNk.out hno)
    have HNe : Hid (NeedI p key val R (6 + (nk : Int) + (nv : Int))) := by
      rw [HRe.out]
      exact need_no hh HTa.out HOI.out.lk HOI.out.lv
    clear hno hh
    go_wp2_with fail
    exact H2.out _ _ _ _ ⟨rfl, rfl, rfl, rfl, rfl, rfl, rfl, rfl, rfl, rfl, rfl, rfl, trivial⟩ HI3.out HO3.out HNe.out
  · obtain ⟨gB, fB, AxB, cxB, rfl, hgB, hfB, cB0, rxB, yB1, yB2, yB3⟩ := HI3.out.rb.at hi
    have hold := body_le HMI.out.unp (HMI.out.mp.mem hat hfB)
    simp only at hold
    obtain ⟨fo, hfo⟩ : ∃ fo, fo = fB.length := ⟨_, rfl⟩
    rw [← hfo] at cB0 hold
    have HNe : Hid (NeedI p key val R ((nv : Int) - (fo : Int))) := by
      rw [HRe.out]
      exact need_yes HMI.out.unp HMI.out.mp hat hfB HTa.out HOI.out.lv hfo
    obtain ⟨N, hN⟩ : ∃ N : Int, N = (nv : Int) - (fo : Int) := ⟨_, rfl⟩
    rw [← hN] at HNe
    have HNq := hide hN
    clear hat hfB hN hfo rxB yB1 yB2 yB3
    go_upto_region 29 with fail
    refine wp_region_flow (Up w3) 9 (by kernel_rfl) (by kernel_rfl) (Up.start _) ?_
    simp only [List.take_succ_cons, List.take_zero, List.drop_succ_cons, List.drop_zero]
    refine wpFlow_read ?_ rfl (fun w' hS => ?_) ?_
    rotate_left
    · go_simp
      rfl
    go_frame
    refine wpFlow_read ?_ rfl (fun w' hS => ?_) ?_
    rotate_left
    · have o2' := (hS.cell (p := ⟨go, 2, none⟩) hgo3).trans o2
      go_simp
      rfl
    go_frame
    refine wpFlow_read ?_ rfl (fun w' hS => ?_) ?_
    rotate_left
    · go_simp
      rfl
    go_frame
    refine wpFlow_read ?_ rfl (fun w' hS => ?_) ?_
    rotate_left
    · go_simp
      rfl
    go_frame
    refine wpFlow_read ?_ rfl (fun w' hS => ?_) ?_
    rotate_left
    · go_simp
      rfl
    go_frame
    refine wpFlow_read ?_ rfl (fun w' hS => ?_) ?_
    rotate_left
    · go_simp
      rfl
    go_frame
    refine wpFlow_read ?_ rfl (fun w' hS => ?_) ?_
    rotate_left
    · have c0' := (hS.cell (p := ⟨gB, i, none⟩) hgB).trans cB0
      go_simp
      rfl
    go_frame
    refine wpFlow_read ?_ rfl (fun w' hS => ?_) ?_
    rotate_left
    · go_simp
      rfl
    go_frame
    refine wpFlow_read ?_ rfl (fun w' hS => ?_) ?_
    rotate_left
    · have s8 : IntKind.i64.wrap ((nv : Int) - (fo : Int)) = N := by rw [IntWalk.i64_in _ (by omega)]; exact HNq.out.symm
      go_simp
      rfl
    go_frame
    refine wpFlow_nil fun w4 hS => ?_
    have HI4 := hide (HI3.out.below hS)
    have HO4 := hide (HO3.out.below hS (by omega))
    clear hS cB0 o1 o2
    go_wp2_with fail
    exact H2.out _ _ _ _ ⟨rfl, rfl, rfl, rfl, rfl, rfl, rfl, rfl, rfl, rfl, rfl, rfl, trivial⟩ HI4.out HO4.out HNe.out
set_option linter.unusedVariables false in
set_option maxRecDepth 1000000 in
set_option maxHeartbeats 16000000 in
theorem pm_e2 {w : World} {A0 : Option Addr} {n c : Nat} {os : List Op1} {kd : UInt8} {Ab : Option Addr} {cb : Nat} {A B : Option Addr} {nn cA cB j : Nat} {w2 : World} {bs : List UInt8} {p : Pag.Pg} {ks vs : Pag.Txs} {go kz : Nat} {kv : Int} {Ak Av : Option Addr} {nk ck nv cv : Nat} {key val : List UInt8} {z R N : Int} {Q : Exit → Act → World → Prop} {a : Act} (Y : Code) (hF : Fr a (live A0 n c kd (.slice Ab 4080 cb) A B nn cA cB j ++ [(11, .pointer (some ⟨go, 0, none⟩)), (12, .int .i64 z), (17, .int .i64 R), (19, .int .i64 N)])) (HI : MI w kd (.slice Ab 4080 cb) A B nn cA cB w2 bs p ks vs) (HO : OpI w w2 go kz kv Ak Av nk ck nv cv key val) (hnn : nn ≤ 60) (hkd : ¬ kd = 0) (hk : Pag.mayB key val = true) (hz : AtI ks key nn z) (hN : NeedI p key val R N)
    (h1 : ∀ a' w', Fr a' (live A0 n c kd (.slice Ab 4080 cb) A B nn cA cB j) → MI w kd (.slice Ab 4080 cb) A B nn cA cB w' bs p ks vs → Q (.exit 1) a' w')
    (h2 : ∀ a' w' v x p', Fr a' (live A0 n c kd (.slice Ab 4080 cb) A B nn cA cB j ++ [(11, .pointer (some ⟨go, 0, none⟩)), (12, .int .i64 z), (20, v)]) → MI w kd (.slice Ab 4080 cb) A B nn cA cB w' bs p ks vs → OpI w w' go kz kv Ak Av nk ck nv cv key val → Ow w' w.heap.size v x → Pag.unpB x = some p' → p'.kind = kd → p'.next = 7 → Pag.Mp p'.cells (outZ ks z ++ [key]) (outZ vs z ++ [val]) → Y.wp Try.prog Q a' w') :
    (Code.seq (cL pmX7) (Code.seq (cL pmX8) (Code.seq (cL pmX9) Y))).wp Try.prog Q a w2 := by
  conv => arg 2; arg 1; whnf
  conv => arg 2; arg 2; arg 1; whnf
  conv => arg 2; arg 2; arg 2; arg 1; whnf
  obtain ⟨f, rfl, ⟨s0, s5, s6, s8, s9, s10, s11, s12, s17, s19, _⟩, hfr⟩ := hF.open
  rw [hfr] at s0 s5 s6 s8 s9 s10 s11 s12 s17 s19
  rw [s0, s5, s6, s8, s9, s10, s11, s12, s17, s19]
  clear hF hfr s0 s5 s6 s8 s9 s10 s11 s12 s17 s19
  have H1 := hide h1
  have H2 := hide h2
  have hs2 := HI.bel.size
  have HMI := hide HI
  have HOI := hide HO
  have hbl := unp_len HI.unp
  obtain ⟨hc1, hc2⟩ := HI.cap
  have hr := Pag.right_rise (Pag.unpB_right HI.unp).1
  have HR := hide hr
  have HBl := hide hbl
  have HNk := hide HI.ra.1
  have hgo := HO.blk.lt
  have hck1 := HO.ck1
  have hck2 := HO.ck2
  have hcv1 := HO.cv1
  have hcv2 := HO.cv2
  have HNe := hide hN
  have HZ := hide hz
  have HMy := hide hk
  have HKd := hide hkd
  have HNv := hide HI.rb.1
  obtain ⟨hm1, hm2, hm3⟩ := may_sizes hk
  rw [← HO.lk] at hm1 hm2
  rw [← HO.lv] at hm3
  have o1 := HO.blk.cell 1
  have o2 := HO.blk.cell 2
  simp at o1 o2
  clear h1 h2 HI HO hr hbl hk hz hkd hN
  go_wp2_with fail
  have cp := put_any Ab Ak Av 4080 cb nk ck nv cv bs key val _ (HMI.out.bytes HBl.out) (by omega) hc1 hc2 (HOI.out.ky.more hs2) (by omega) hck1 hck2 (HOI.out.vl.more hs2) (by omega) hcv1 hcv2
  have hcan := Pag.put_can (val := val) HMI.out.unp (by rw [HMI.out.kind]; exact HKd.out) HMy.out
  rcases hcan with ⟨ht, x, hx, hu⟩ | ⟨ht, hx⟩
  · rw [hx] at cp
    with_reducible refine cp.mono ?_
    clear cp
    rintro e w3 ⟨v, rfl, ho3, hb3⟩
    simp only at ho3 ⊢
    have HI3 := hide (HMI.out.below hb3)
    have HO3 := hide (HOI.out.below hb3 hs2)
    have hs3 := hb3.size
    have HW : Hid (Ow w3 w.heap.size v x) := own_base ho3 hs2
    have HU := hide hu
    have HM : Hid (Pag.Mp (Pag.putN p.cells key val) (outZ ks z ++ [key]) (outZ vs z ++ [val])) := by
      rcases HZ.out with ⟨rfl, hno⟩ | ⟨i, hi, rfl, hat⟩
      · rw [outZ_no, outZ_no]
        exact HMI.out.mp.putNo val (HMI.out.mp.no (AtI.no HNk.out hno))
      · have hv : vs[i]? = some (vs[i]'(by rw [← HNv.out]; exact hi)) := List.getElem?_eq_getElem _
        rw [outZ_at, outZ_at]
        exact HMI.out.mp.putYes HR.out val hat hv
    have t1 : decide (N ≤ R) = true := decide_eq_true (HNe.out.2 ht)
    have t2 : N ≤ R := HNe.out.2 ht
    clear ho3 hb3 hu ht hx o1 o2
    go_wp2_with fail
    exact H2.out _ _ _ _ _ ⟨rfl, rfl, rfl, rfl, rfl, rfl, rfl, rfl, rfl, rfl, rfl, trivial⟩ HI3.out HO3.out HW.out HU.out HMI.out.kind HMI.out.next HM.out
  · rw [hx] at cp
    with_reducible refine cp.mono ?_
    clear cp
    rintro e w3 ⟨v, rfl, ho3, hb3⟩
    simp only at ho3 ⊢
    have HI3 := hide (HMI.out.below hb3)
    have t2 : ¬ N ≤ R := fun h => ht (HNe.out.1 h)
    have t1 : decide (N ≤ R) = false := decide_eq_false t2
    clear ho3 hb3 ht hx o1 o2
    go_wp2_with fail
    exact H1.out _ _ ⟨rfl, rfl, rfl, rfl, rfl, rfl, rfl, rfl, trivial⟩ HI3.out
end Go.Proofs.Ytpoilndlfbmhgaa

/-
  PageMap: the row of a key that was there is taken out of both lists. Conditions: none.
-/
namespace Go.Proofs.Ytpoilndlfbmhgaa
open Go.RowKit

set_option linter.unusedVariables false in
set_option maxRecDepth 1000000 in
set_option maxHeartbeats 16000000 in
theorem pm_f {w : World} {A0 : Option Addr} {n c : Nat} {os : List Op1} {kd : UInt8} {Ab : Option Addr} {cb : Nat} {A B : Option Addr} {nn cA cB j : Nat} {w2 : World} {bs : List UInt8} {p : Pag.Pg} {ks vs : Pag.Txs} {go kz : Nat} {kv : Int} {Ak Av : Option Addr} {nk ck nv cv : Nat} {key val : List UInt8} {z : Int} {v : Value} {x : List UInt8} {p' : Pag.Pg} {Q : Exit → Act → World → Prop} {a : Act} (Y : Code) (hF : Fr a (live A0 n c kd (.slice Ab 4080 cb) A B nn cA cB j ++ [(11, .pointer (some ⟨go, 0, none⟩)), (12, .int .i64 z), (20, v)])) (HI : MI w kd (.slice Ab 4080 cb) A B nn cA cB w2 bs p ks vs) (HO : OpI w w2 go kz kv Ak Av nk ck nv cv key val) (hnn : nn ≤ 60) (hz : AtI ks key nn z) (hw : Ow w2 w.heap.size v x) (hu : Pag.unpB x = some p') (hpk : p'.kind = kd) (hpn : p'.next = 7) (hpm : Pag.Mp p'.cells (outZ ks z ++ [key]) (outZ vs z ++ [val]))
    (h2 : ∀ a' w' A' B' nn' cA' cB' ks' vs', nn' ≤ nn → Fr a' (live A0 n c kd v A' B' nn' cA' cB' j ++ [(11, .pointer (some ⟨go, 0, none⟩))]) → MP w kd v A' B' nn' cA' cB' w' x p' ks' vs' key val → OpI w w' go kz kv Ak Av nk ck nv cv key val → Y.wp Try.prog Q a' w') :
    (Code.seq (cL pmX10) (Code.seq (cL pmX11) Y)).wp Try.prog Q a w2 := by
  conv => arg 2; arg 1; whnf
  conv => arg 2; arg 2; arg 1; whnf
  obtain ⟨f, rfl, ⟨s0, s5, s6, s8, s9, s10, s11, s12, s20, _⟩, hfr⟩ := hF.open
  rw [hfr] at s0 s5 s6 s8 s9 s10 s11 s12 s20
  rw [s0, s5, s6, s8, s9, s10, s11, s12, s20]
  clear hF hfr s0 s5 s6 s8 s9 s10 s11 s12 s20
  have H2 := hide h2
  have hs2 := HI.bel.size
  have HI4 := hide HI
  have HO4 := hide HO
  have HNk := hide HI.ra.1
  have HNv := hide HI.rb.1
  have HW := hide hw
  have HU := hide hu
  have HPk := hide hpk
  have HPn := hide hpn
  have HPm := hide hpm
  have HZ := hide hz
  obtain ⟨w4, hw4⟩ : ∃ w4, w4 = w2 := ⟨_, rfl⟩
  subst hw4
  clear h2 HI HO hw hu hpk hpn hpm hz
  rcases HZ.out with ⟨rfl, hno⟩ | ⟨i, hi, rfl, hat⟩
  · have HM : Hid (MP w kd v A B nn cA cB w4 x p' ks vs key val) := by
      have h := HPm.out
      rw [outZ_no, outZ_no] at h
      exact ⟨HW.out, HU.out, HPk.out, HPn.out, h, HI4.out.ra, HI4.out.rb, HI4.out.ab, HI4.out.bel⟩
    clear hno
    go_wp2_with fail
    exact H2.out _ _ _ _ _ _ _ _ _ (Nat.le_refl _) ⟨rfl, rfl, rfl, rfl, rfl, rfl, rfl, rfl, rfl, trivial⟩ HM.out HO4.out
  · obtain ⟨gA, fA, _, _, rfl, hgA, hfA, _⟩ := HI4.out.ra.at hi
    obtain ⟨gB, fB, _, _, rfl, hgB, hfB, _⟩ := HI4.out.rb.at hi
    have hpm2 := HPm.out
    rw [outZ_at, outZ_at] at hpm2
    have HME := hide hpm2
    have hca : nn ≤ cA := HI4.out.ra.2.1
    have hcb : nn ≤ cB := HI4.out.rb.2.1
    obtain ⟨q, hq⟩ : ∃ q, q = i + 1 := ⟨_, rfl⟩
    rw [← hq] at HME
    have HQe := hide hq
    have hq1 : q ≤ nn := by omega
    have hq2 : i < q := by omega
    clear hat hfA hfB hq hpm2
    obtain ⟨oA, hoA⟩ : ∃ o, o = if cA = q then 0 else q := ⟨_, rfl⟩
    obtain ⟨oB, hoB⟩ : ∃ o, o = if cB = q then 0 else q := ⟨_, rfl⟩
    obtain ⟨mq, hmq⟩ : ∃ m, m = nn - q := ⟨_, rfl⟩
    obtain ⟨dA, hdA⟩ : ∃ m, m = cA - q := ⟨_, rfl⟩
    obtain ⟨dB, hdB⟩ : ∃ m, m = cB - q := ⟨_, rfl⟩
    have HoA := hide hoA
    have HoB := hide hoB
    have HmQ := hide hmq
    have HdA := hide hdA
    have HdB := hide hdB
    clear hoA hoB hmq hdA hdB
    go_upto_region 36 with fail
    by_cases hm : nn ≤ q
    · have Hm0 : Hid (mq = 0) := by show _ = _; rw [HmQ.out]; omega
      refine wp_region_toldL (tab []) (Up w4) (w4.heap.size) 20 (shp []) (shp_some (l := []) (fun p hp => by cases hp)) (tab_stable (l := []) (fun p hp => by cases hp)) (Up.lives _) (Gro) (Gro.turns (Up.lives _) (tab_stable (l := []) (fun p hp => by cases hp))) (by kernel_rfl) (by kernel_rfl) (Up.start _) (Nat.le_refl _) ?_
      simp only [List.take_succ_cons, List.take_zero, List.drop_succ_cons, List.drop_zero]
      refine wpTold_read ?_ rfl rfl (fun w' hS => ?_) ?_
      rotate_left
      · go_simp
        rfl
      go_frame
      refine wpTold_read ?_ rfl rfl (fun w' hS => ?_) ?_
      rotate_left
      · go_simp
        rfl
      go_frame
      refine wpTold_read ?_ rfl rfl (fun w' hS => ?_) ?_
      rotate_left
      · go_simp
        rfl
      go_frame
      refine wpTold_read ?_ rfl rfl (fun w' hS => ?_) ?_
      rotate_left
      · have s3 := run_textsTo w' (some ⟨gA, 0, none⟩) nn cA i (by omega)
        go_simp
        rfl
      go_frame
      refine wpTold_read ?_ rfl rfl (fun w' hS => ?_) ?_
      rotate_left
      · go_simp
        rfl
      go_frame
      refine wpTold_read ?_ rfl rfl (fun w' hS => ?_) ?_
      rotate_left
      · go_simp
        rfl
      go_frame
      refine wpTold_read ?_ rfl rfl (fun w' hS => ?_) ?_
      rotate_left
      · have s6 : IntKind.i64.wrap ((i : Int) + 1) = (q : Int) := by rw [IntWalk.i64_in _ (by omega)]; have := HQe.out; omega
        go_simp
        rfl
      go_frame
      refine wpTold_read ?_ rfl rfl (fun w' hS => ?_) ?_
      rotate_left
      · have s7 := run_textsFromO w' gA nn cA q (by omega) HoA.out HmQ.out HdA.out
        go_simp
        rfl
      go_frame
      refine wpTold_read ?_ rfl rfl (fun w' hS => ?_) ?_
      rotate_left
      · exact exec_append (.tmp 178) (.tmp 182) rfl rfl rfl (by rw [Hm0.out]; exact run_app0 ((HI4.out.ra.cut (i := i) (by omega)).below hS (Nat.le_refl _) HI4.out.bel.size) (by simp) _ _)
      go_frame
      refine wpTold_read ?_ rfl rfl (fun w' hS => ?_) ?_
      rotate_left
      · go_simp
        rfl
      go_frame
      refine wpTold_read ?_ rfl rfl (fun w' hS => ?_) ?_
      rotate_left
      · go_simp
        rfl
      go_frame
      refine wpTold_read ?_ rfl rfl (fun w' hS => ?_) ?_
      rotate_left
      · go_simp
        rfl
      go_frame
      refine wpTold_read ?_ rfl rfl (fun w' hS => ?_) ?_
      rotate_left
      · have s3 := run_textsTo w' (some ⟨gB, 0, none⟩) nn cB i (by omega)
        go_simp
        rfl
      go_frame
      refine wpTold_read ?_ rfl rfl (fun w' hS => ?_) ?_
      rotate_left
      · go_simp
        rfl
      go_frame
      refine wpTold_read ?_ rfl rfl (fun w' hS => ?_) ?_
      rotate_left
      · go_simp
        rfl
      go_frame
      refine wpTold_read ?_ rfl rfl (fun w' hS => ?_) ?_
      rotate_left
      · have s6 : IntKind.i64.wrap ((i : Int) + 1) = (q : Int) := by rw [IntWalk.i64_in _ (by omega)]; have := HQe.out; omega
        go_simp
        rfl
      go_frame
      refine wpTold_read ?_ rfl rfl (fun w' hS => ?_) ?_
      rotate_left
      · have s7 := run_textsFromO w' gB nn cB q (by omega) HoB.out HmQ.out HdB.out
        go_simp
        rfl
      go_frame
      refine wpTold_read ?_ rfl rfl (fun w' hS => ?_) ?_
      rotate_left
      · exact exec_append (.tmp 187) (.tmp 191) rfl rfl rfl (by rw [Hm0.out]; exact run_app0 ((HI4.out.rb.cut (i := i) (by omega)).below hS (Nat.le_refl _) HI4.out.bel.size) (by simp) _ _)
      go_frame
      refine wpTold_read ?_ rfl rfl (fun w' hS => ?_) ?_
      rotate_left
      · go_simp
        rfl
      go_frame
      refine wpTold_read ?_ rfl rfl (fun w' hS => ?_) ?_
      rotate_left
      · go_simp
        rfl
      go_frame
      refine wpTold_nil fun w5 hH => ?_
      have hup : Below w4.heap.size w4 w5 := hH.s
      have HI5 := hide (HI4.out.below hup)
      have HO5 := hide (HO4.out.below hup hs2)
      have HM : Hid (MP w kd v (some ⟨gA, 0, none⟩) (some ⟨gB, 0, none⟩) i i i w5 x p' (ks.take i) (vs.take i) key val) := by
        have hme := HME.out
        rw [List.drop_of_length_le (by rw [← HNk.out]; omega), List.drop_of_length_le (by rw [← HNv.out]; omega), List.append_nil, List.append_nil] at hme
        exact ⟨own_below HW.out hup, HU.out, HPk.out, HPn.out, hme, HI5.out.ra.cut (by omega), HI5.out.rb.cut (by omega), HI5.out.ab, HI5.out.bel⟩
      clear hH hup
      go_wp2_with fail
      exact H2.out _ _ _ _ _ _ _ _ _ (by omega) ⟨rfl, rfl, rfl, rfl, rfl, rfl, rfl, rfl, rfl, trivial⟩ HM.out HO5.out
    · refine Tw.wp_region_toldL (T2 8 17 w.heap.size w.heap.size (nn - 1) (ks.take i ++ ks.drop q) (vs.take i ++ vs.drop q)) (Up w4) (w4.heap.size) 20 (sh2 8 17 (nn - 1)) (sh2_some 8 17 _) (T2.stable _ _ _ _ _ _ _) (Up.lives _) (Gro) (turns2 _ _ _ _ _ _ _ _) (by kernel_rfl) (by kernel_rfl) (Up.start _) (Nat.le_refl _) ?_
      simp only [List.take_succ_cons, List.take_zero, List.drop_succ_cons, List.drop_zero]
      refine Tw.wpTold_read ?_ rfl rfl (fun w' hS => ?_) ?_
      rotate_left
      · go_simp
        rfl
      go_frame
      refine Tw.wpTold_read ?_ rfl rfl (fun w' hS => ?_) ?_
      rotate_left
      · go_simp
        rfl
      go_frame
      refine Tw.wpTold_read ?_ rfl rfl (fun w' hS => ?_) ?_
      rotate_left
      · go_simp
        rfl
      go_frame
      refine Tw.wpTold_read ?_ rfl rfl (fun w' hS => ?_) ?_
      rotate_left
      · have s3 := run_textsTo w' (some ⟨gA, 0, none⟩) nn cA i (by omega)
        go_simp
        rfl
      go_frame
      refine Tw.wpTold_read ?_ rfl rfl (fun w' hS => ?_) ?_
      rotate_left
      · go_simp
        rfl
      go_frame
      refine Tw.wpTold_read ?_ rfl rfl (fun w' hS => ?_) ?_
      rotate_left
      · go_simp
        rfl
      go_frame
      refine Tw.wpTold_read ?_ rfl rfl (fun w' hS => ?_) ?_
      rotate_left
      · have s6 : IntKind.i64.wrap ((i : Int) + 1) = (q : Int) := by rw [IntWalk.i64_in _ (by omega)]; have := HQe.out; omega
        go_simp
        rfl
      go_frame
      refine Tw.wpTold_read ?_ rfl rfl (fun w' hS => ?_) ?_
      rotate_left
      · have s7 := run_textsFromO w' gA nn cA q (by omega) HoA.out HmQ.out HdA.out
        go_simp
        rfl
      go_frame
      refine Tw.wpTold_tell _ rfl rfl (fun w' hS hh hs => ?_) (fun v8 h8 => ?_)
      · have hr := ((HI4.out.ra.below hS (Nat.le_refl _) HI4.out.bel.size))
        have hx := hr.fromO (i := q) (by omega) HoA.out HmQ.out
        obtain ⟨A2, c2, w9, hrun, ht, hgr, hfr, hkp, hgn⟩ := run_appT (ty := 46) (hr.cut (i := i) (by omega)) ⟨gA, oA, none⟩ _ mq dA (ks.drop q) hx (by have := HmQ.out; omega) (Nat.le_refl _) (Nat.le_trans HI4.out.bel.size hS.size) (by have := HmQ.out; omega)
        obtain ⟨hg0, hfr0⟩ := hgn (by have := HQe.out; have := HmQ.out; omega)
        rw [show i + mq = nn - 1 by have := HQe.out; have := HmQ.out; omega] at hrun ht
        have hbb : Below w'.heap.size w' w9 := ⟨hg0.os, hg0.tape, hg0.output, hg0.size, fun k hk => hg0.block k hk (by simp)⟩
        exact ⟨_, w9, exec_append (.tmp 178) (.tmp 182) rfl rfl rfl hrun, ⟨⟨_, _, rfl⟩, ⟨⟨_, _, rfl, ht⟩, Nat.le_trans (Nat.le_trans HI4.out.bel.size hS.size) hg0.size⟩, fun g' e => .inl (hfr0 g' (by rw [blk_own] at e; exact e))⟩, hbb⟩
      obtain ⟨A8, c8, rfl⟩ := h8
      go_frame
      refine Tw.wpTold_read ?_ rfl rfl (fun w' hS => ?_) ?_
      rotate_left
      · go_simp
        rfl
      go_frame
      refine Tw.wpTold_read ?_ rfl rfl (fun w' hS => ?_) ?_
      rotate_left
      · go_simp
        rfl
      go_frame
      refine Tw.wpTold_read ?_ rfl rfl (fun w' hS => ?_) ?_
      rotate_left
      · go_simp
        rfl
      go_frame
      refine Tw.wpTold_read ?_ rfl rfl (fun w' hS => ?_) ?_
      rotate_left
      · have s3 := run_textsTo w' (some ⟨gB, 0, none⟩) nn cB i (by omega)
        go_simp
        rfl
      go_frame
      refine Tw.wpTold_read ?_ rfl rfl (fun w' hS => ?_) ?_
      rotate_left
      · go_simp
        rfl
      go_frame
      refine Tw.wpTold_read ?_ rfl rfl (fun w' hS => ?_) ?_
      rotate_left
      · go_simp
        rfl
      go_frame
      refine Tw.wpTold_read ?_ rfl rfl (fun w' hS => ?_) ?_
      rotate_left
      · have s6 : IntKind.i64.wrap ((i : Int) + 1) = (q : Int) := by rw [IntWalk.i64_in _ (by omega)]; have := HQe.out; omega
        go_simp
        rfl
      go_frame
      refine Tw.wpTold_read ?_ rfl rfl (fun w' hS => ?_) ?_
      rotate_left
      · have s7 := run_textsFromO w' gB nn cB q (by omega) HoB.out HmQ.out HdB.out
        go_simp
        rfl
      go_frame
      refine Tw.wpTold_tell _ rfl rfl (fun w' hS hh hs => ?_) (fun v17 h17 => ?_)
      · have hr := ((HI4.out.rb.below hS (Nat.le_refl _) HI4.out.bel.size))
        have hx := hr.fromO (i := q) (by omega) HoB.out HmQ.out
        obtain ⟨A2, c2, w9, hrun, ht, hgr, hfr, hkp, hgn⟩ := run_appT (ty := 46) (hr.cut (i := i) (by omega)) ⟨gB, oB, none⟩ _ mq dB (vs.drop q) hx (by have := HmQ.out; omega) (Nat.le_refl _) (Nat.le_trans HI4.out.bel.size hS.size) (by have := HmQ.out; omega)
        obtain ⟨hg0, hfr0⟩ := hgn (by have := HQe.out; have := HmQ.out; omega)
        rw [show i + mq = nn - 1 by have := HQe.out; have := HmQ.out; omega] at hrun ht
        have hbb : Below w'.heap.size w' w9 := ⟨hg0.os, hg0.tape, hg0.output, hg0.size, fun k hk => hg0.block k hk (by simp)⟩
        exact ⟨_, w9, exec_append (.tmp 187) (.tmp 191) rfl rfl rfl hrun, ⟨⟨_, _, rfl⟩, ⟨⟨_, _, rfl, ht⟩, Nat.le_trans (Nat.le_trans HI4.out.bel.size hS.size) hg0.size⟩, fun g' e => .inl (hfr0 g' (by rw [blk_own] at e; exact e))⟩, hbb⟩
      obtain ⟨A17, c17, rfl⟩ := h17
      go_frame
      refine Tw.wpTold_read ?_ rfl rfl (fun w' hS => ?_) ?_
      rotate_left
      · go_simp
        rfl
      go_frame
      refine Tw.wpTold_read ?_ rfl rfl (fun w' hS => ?_) ?_
      rotate_left
      · go_simp
        rfl
      go_frame
      refine Tw.wpTold_nil fun w5 hH => ?_
      have hup : Below w4.heap.size w4 w5 := hH.s
      have g8 : RFn w.heap.size w.heap.size (nn - 1) (ks.take i ++ ks.drop q) (.slice A8 (nn - 1) c8) w5 := hH.told 8 _ _ rfl rfl
      have g17 : RFn w.heap.size w.heap.size (nn - 1) (vs.take i ++ vs.drop q) (.slice A17 (nn - 1) c17) w5 := hH.told 17 _ _ rfl rfl
      have hap := hH.pair 8 17 _ _ _ _ rfl rfl (by omega) rfl rfl rfl rfl
      have HI5 := hide (HI4.out.below hup)
      have HO5 := hide (HO4.out.below hup hs2)
      have HM : Hid (MP w kd v A8 A17 (nn - 1) c8 c17 w5 x p' (ks.take i ++ ks.drop q) (vs.take i ++ vs.drop q) key val) := by
        obtain ⟨⟨A8', c8', e8, r8⟩, _⟩ := g8
        obtain ⟨⟨A17', c17', e17, r17⟩, _⟩ := g17
        injection e8 with e1 _ e2
        injection e17 with e3 _ e4
        subst e1 e2 e3 e4
        exact ⟨own_below HW.out hup, HU.out, HPk.out, HPn.out, HME.out, r8, r17, fun g e => by have := hap g (by rw [blk_own]; exact e); rw [blk_own] at this; exact this, HI5.out.bel⟩
      clear hH hup g8 g17 hap
      go_wp2_with fail
      exact H2.out _ _ _ _ _ _ _ _ _ (by omega) ⟨rfl, rfl, rfl, rfl, rfl, rfl, rfl, rfl, rfl, trivial⟩ HM.out HO5.out
end Go.Proofs.Ytpoilndlfbmhgaa

/-
  PageMap: key and value are put behind the lists. Conditions: none.
-/
namespace Go.Proofs.Ytpoilndlfbmhgaa
open Go.RowKit

theorem own_sv {w w' : World} {base : Nat} {e : TypeId} {size : Nat} {v : Value} {n : Nat} {xs : List Value} (h : w.ownsRow base e size v n xs) (hk : ∀ g, v.ownBlock = some g → w'.heap[g]? = w.heap[g]?) : w'.ownsRow base e size v n xs := by
  refine ⟨h.1, ?_⟩
  rcases h.2 with h2 | ⟨g, cap, cur, hv, hg, hh, r⟩
  · exact .inl h2
  · exact .inr ⟨g, cap, cur, hv, hg, (hk g (by subst hv; rfl)).trans hh, r⟩
theorem TR.ne {w : World} {K lo n c g : Nat} {A : Option Addr} {ls : Pag.Txs} {t : TypeId} {cs : Array Value} (h : TR w K lo A n c ls) (hb : Blk w g t cs) (hne : t ≠ 26) : blk A ≠ some g := by
  intro e
  obtain ⟨_, _, _, bs, _, _, h8⟩ := h
  rcases h8 with ⟨rfl, _⟩ | ⟨g', cur, rfl, h1, hh, _⟩
  · cases e
  · injection e with e
    have e : g' = g := e
    subst e
    unfold Blk at hb
    rw [hb] at hh
    injection hh with hh
    injection hh with _ h3 _
    exact hne h3
theorem TR.neOwn {w : World} {K lo n c b : Nat} {A : Option Addr} {ls : Pag.Txs} {v : Value} {x : List UInt8} (h : TR w K lo A n c ls) (ho : Ow w b v x) {g : Nat} (hg : v.ownBlock = some g) : blk A ≠ some g := by
  intro e
  obtain ⟨_, _, _, bs, _, _, h8⟩ := h
  rcases h8 with ⟨rfl, _⟩ | ⟨g', cur, rfl, h1, hh, _⟩
  · cases e
  · injection e with e
    have e : g' = g := e
    subst e
    exact own_blk_ne ho (show Blk w g' 26 cur from hh) (by decide) hg
theorem lit_blk (w : World) (o : Option Nat) : ∀ g, (Value.slice (some ⟨w.heap.size, 0, none⟩) 1 1).ownBlock = some g → w.heap.size ≤ g ∨ o = some g := fun g e => by
  have e2 : w.heap.size = g := by simpa [Value.ownBlock] using e
  exact .inl (by omega)
theorem own_in {w : World} {b : Nat} {v : Value} {x : List UInt8} (ho : Ow w b v x) {g : Nat} (hg : v.ownBlock = some g) : g < w.heap.size := by
  rcases ho.2 with ⟨h2, _⟩ | ⟨g', cap, cur, hv, _, hh, _⟩
  · rw [h2] at hg; cases hg
  · subst hv
    have e : g' = g := by simpa [Value.ownBlock] using hg
    subst e
    exact lt_of_block hh
def S37 (K lo : Nat) (w0 : World) (a b : Option Nat) (A B : Option Addr) (n cA cB : Nat) (ks vs : Pag.Txs) : World → Prop := fun w => Sv w0 a b w ∧ RF K lo w0.heap.size a n ks (.slice A n cA) w ∧ RF K lo w0.heap.size b n vs (.slice B n cB) w
theorem S37.lives {K lo : Nat} {w0 : World} {a b : Option Nat} {A B : Option Addr} {n cA cB : Nat} {ks vs : Pag.Txs} : Lives (S37 K lo w0 a b A B n cA cB ks vs) := fun w w' h hb => ⟨Sv.lives w0 a b w w' h.1 hb, RF.stable _ _ _ _ _ _ _ _ _ h.2.1 hb, RF.stable _ _ _ _ _ _ _ _ _ h.2.2 hb⟩
theorem r37_no {K lo h0 : Nat} {a b : Option Nat} {n : Nat} {ks vs : Pag.Txs} {i : Nat} {w w' : World} (h4 : i ≠ 4) (h9 : i ≠ 9) (h : w.grownBy w' none) : R37 K lo h0 a b n ks vs i w w' := by
  unfold R37
  rw [if_neg h4, if_neg h9]
  exact h
theorem r37_a {K lo h0 : Nat} {a b : Option Nat} {n : Nat} {ks vs : Pag.Txs} {w w' : World} (h : w.grownBy w' a ∧ ∀ u, RF K lo h0 a n ks u w → RF K lo h0 a n ks u w') : R37 K lo h0 a b n ks vs 4 w w' := h
theorem r37_b {K lo h0 : Nat} {a b : Option Nat} {n : Nat} {ks vs : Pag.Txs} {w w' : World} (h : w.grownBy w' b ∧ ∀ u, RF K lo h0 b n vs u w → RF K lo h0 b n vs u w') : R37 K lo h0 a b n ks vs 9 w w' := h
theorem turns37S {K lo : Nat} {a b : Option Nat} {n : Nat} {ks vs : Pag.Txs} {key val : List UInt8} {A B : Option Addr} {cA cB : Nat} {w0 : World} (hK : K ≤ lo) (ha : ∀ g, a = some g → lo ≤ g ∧ g < w0.heap.size) (hb : ∀ g, b = some g → lo ≤ g ∧ g < w0.heap.size) (hab : ∀ g, a = some g → b ≠ some g) :
    Tw.Turns false (R37 K lo w0.heap.size a b n ks vs) (S37 K lo w0 a b A B n cA cB ks vs) w0.heap.size (T37 K lo w0.heap.size a b n ks vs key val) (sh37 a b A B n cA cB).old (sh37 a b A B n cA cB).pr := by
  have t := turns37 (K := K) (lo := lo) (n := n) (ks := ks) (vs := vs) (key := key) (val := val) (A := A) (B := B) (cA := cA) (cB := cB) hK ha hb hab
  refine ⟨t.fr, fun i w w' hs hr => ⟨t.s i w w' hs.1 hr, ?_, ?_⟩, t.size, t.block, t.told⟩
  · by_cases hi : i = 0
    · subst hi
      exact RF.grown hs.2.1 (show w.grownBy w' none from hr) (fun g e => by cases e) hK
    · exact t.told i 0 _ hi rfl _ _ _ hs.2.1 hr
  · by_cases hi : i = 5
    · subst hi
      exact RF.grown hs.2.2 (show w.grownBy w' none from hr) (fun g e => by cases e) hK
    · exact t.told i 5 _ hi rfl _ _ _ hs.2.2 hr
set_option linter.unusedVariables false in
set_option maxRecDepth 1000000 in
set_option maxHeartbeats 16000000 in
theorem pm_g {w : World} {A0 : Option Addr} {n c : Nat} {os : List Op1} {kd : UInt8} {Ab : Option Addr} {cb : Nat} {A B : Option Addr} {nn cA cB j : Nat} {w2 : World} {bs : List UInt8} {p : Pag.Pg} {v : Value} {ks vs : Pag.Txs} {go kz : Nat} {kv : Int} {Ak Av : Option Addr} {nk ck nv cv : Nat} {key val : List UInt8} {Q : Exit → Act → World → Prop} {a : Act} (hF : Fr a (live A0 n c kd v A B nn cA cB j ++ [(11, .pointer (some ⟨go, 0, none⟩))])) (HI : MP w kd v A B nn cA cB w2 bs p ks vs key val) (HO : OpI w w2 go kz kv Ak Av nk ck nv cv key val) (hnn : nn ≤ 60) (hk : Pag.mayB key val = true)
    (h1 : ∀ a' w' A' B' cA' cB', Fr a' (live A0 n c kd v A' B' (nn + 1) cA' cB' j) → MI w kd v A' B' (nn + 1) cA' cB' w' bs p (ks ++ [key]) (vs ++ [val]) → Q .normal a' w') :
    (cR pmX11).wp Try.prog Q a w2 := by
  conv => arg 2; whnf
  obtain ⟨f, rfl, ⟨s0, s5, s6, s8, s9, s10, s11, _⟩, hfr⟩ := hF.open
  rw [hfr] at s0 s5 s6 s8 s9 s10 s11
  rw [s0, s5, s6, s8, s9, s10, s11]
  clear hF hfr s0 s5 s6 s8 s9 s10 s11
  have H1 := hide h1
  obtain ⟨w4, hw4⟩ : ∃ w4, w4 = w2 := ⟨_, rfl⟩
  subst hw4
  have hs4 := HI.bel.size
  have HIm := hide HI
  have HBk := hide HO.blk
  have HnA := hide (HI.ra.ne HO.blk (by decide))
  have HnB := hide (HI.rb.ne HO.blk (by decide))
  have HqA : Hid (∀ g, blk A = some g → w.heap.size ≤ g ∧ g < w4.heap.size) := fun g e => HI.ra.lt e
  have HqB : Hid (∀ g, blk B = some g → w.heap.size ≤ g ∧ g < w4.heap.size) := fun g e => HI.rb.lt e
  have HlA : Hid (∀ g, blk A = some g → w.heap.size ≤ g) := fun g e => (HI.ra.lt e).1
  have HlB : Hid (∀ g, blk B = some g → w.heap.size ≤ g) := fun g e => (HI.rb.lt e).1
  have HAB := hide HI.ab
  obtain ⟨hm1, hm2, hm3⟩ := may_sizes hk
  have HKb : Hid (Bd w4 w.heap.size (.slice Ak nk ck) key) := ⟨Ak, ck, by rw [HO.lk], by have := HO.ky; rwa [HO.lk] at this, by omega, by have := HO.ck1; rwa [HO.lk] at this, HO.ck2⟩
  have HVb : Hid (Bd w4 w.heap.size (.slice Av nv cv) val) := ⟨Av, cv, by rw [HO.lv], by have := HO.vl; rwa [HO.lv] at this, by omega, by have := HO.cv1; rwa [HO.lv] at this, HO.cv2⟩
  have HS0 : Hid (S37 w.heap.size w.heap.size w4 (blk A) (blk B) A B nn cA cB ks vs { w4 with drawn := w4.drawn + 1 }) := ⟨Sv.start _ _ _, ⟨⟨A, cA, rfl, HI.ra, fun g e => .inr e⟩, hs4⟩, ⟨B, cB, rfl, HI.rb, fun g e => .inr e⟩, hs4⟩
  clear h1 HI HO hm1 hm2 hm3 hk
  refine Tw.wp_region_toldL (T37 w.heap.size w.heap.size w4.heap.size (blk A) (blk B) nn ks vs key val) (S37 w.heap.size w.heap.size w4 (blk A) (blk B) A B nn cA cB ks vs) (w4.heap.size) 12 (sh37 (blk A) (blk B) A B nn cA cB) (sh37_some _ _ _ _ _ _ _) (T37.stable _ _ _ _ _ _ _ _ _ _) (S37.lives) (R37 w.heap.size w.heap.size w4.heap.size (blk A) (blk B) nn ks vs) (turns37S (Nat.le_refl _) HqA.out HqB.out HAB.out) (by kernel_rfl) (by kernel_rfl) (HS0.out) (Nat.le_refl _) ?_
  simp only [List.take_succ_cons, List.take_zero, List.drop_succ_cons, List.drop_zero]
  refine Tw.wpTold_tell _ rfl rfl (fun w' hS hh hs => ?_) (fun v0 h0 => ?_)
  · exact ⟨_, w', by go_simp <;> rfl, ⟨rfl, hS.2.1, fun g' e => .inr (by rw [blk_own] at e; exact e)⟩, r37_no (by decide) (by decide) ⟨rfl, rfl, rfl, Nat.le_refl _, fun _ _ _ => rfl⟩⟩
  obtain rfl := h0
  go_frame
  refine Tw.wpTold_read ?_ rfl rfl (fun w' hS => ?_) ?_
  rotate_left
  · go_simp
    rfl
  go_frame
  refine Tw.wpTold_read ?_ rfl rfl (fun w' hS => ?_) ?_
  rotate_left
  · have oc := (hS.1.blk HBk.out HnA.out HnB.out).cell 1
    simp at oc
    go_simp
    rfl
  go_frame
  refine Tw.wpTold_tell _ rfl rfl (fun w' hS hh hs => ?_) (fun v3 h3 => ?_)
  · have ox := hS.1.blk HBk.out (HnA.out) (HnB.out)
    have oc := ox.cell 1
    simp at oc
    have hbw := hS.1.below HlA.out HlB.out hs4
    exact ⟨.slice (some ⟨w'.heap.size, 0, none⟩) 1 1, w'.alloc (.cells #[.slice Ak nk ck] 26), by go_simp <;> rfl, ⟨⟨_, _, rfl⟩, RF.lit (HKb.out.keep fun p hp => hbw.cell hp) hS.1.size hs4 (Nat.le_refl _), lit_blk _ _⟩, r37_no (by decide) (by decide) (grown_alloc _ _)⟩
  obtain ⟨g3, c3, rfl⟩ := h3
  go_frame
  refine Tw.wpTold_tell _ rfl rfl (fun w' hS hh hs => ?_) (fun v4 h4 => ?_)
  · obtain ⟨⟨Ax, cx, ex, rx, ox⟩, kx⟩ := hS.2.1
    injection ex with ex1 _ ex2
    subst ex1 ex2
    obtain ⟨⟨Ay, cy, ey, ry, oy⟩, ky⟩ := hs.1 3 _ _ (by kernel_rfl) rfl rfl
    injection ey with ey1 _ ey2
    subst ey1 ey2
    obtain ⟨A2, c2, w9, hrun, ht, hgr, hfr, hkp, hgn⟩ := run_appT (ty := 46) rx ⟨g3, 0, none⟩ _ 1 c3 [key] ry.tx (by omega) (Nat.le_refl _) kx (by omega)
    exact ⟨_, w9, exec_append (.tmp 193) (.tmp 196) rfl rfl rfl hrun, ⟨⟨_, _, rfl⟩, ⟨⟨_, _, rfl, ht, fun g' e => (hfr g' e).imp (fun h => Nat.le_trans hS.1.size h) id⟩, Nat.le_trans kx hgr.size⟩, fun g' e => hfr g' (by rw [blk_own] at e; exact e)⟩, r37_a ⟨hgr, fun u hu => by obtain ⟨⟨A', c', e', r', o'⟩, k'⟩ := hu; exact ⟨⟨A', c', e', hkp A' c' r', o'⟩, Nat.le_trans k' hgr.size⟩⟩⟩
  obtain ⟨A4, c4, rfl⟩ := h4
  go_frame
  refine Tw.wpTold_tell _ rfl rfl (fun w' hS hh hs => ?_) (fun v5 h5 => ?_)
  · exact ⟨_, w', by go_simp <;> rfl, ⟨rfl, hS.2.2, fun g' e => .inr (by rw [blk_own] at e; exact e)⟩, r37_no (by decide) (by decide) ⟨rfl, rfl, rfl, Nat.le_refl _, fun _ _ _ => rfl⟩⟩
  obtain rfl := h5
  go_frame
  refine Tw.wpTold_read ?_ rfl rfl (fun w' hS => ?_) ?_
  rotate_left
  · go_simp
    rfl
  go_frame
  refine Tw.wpTold_read ?_ rfl rfl (fun w' hS => ?_) ?_
  rotate_left
  · have oc := (hS.1.blk HBk.out HnA.out HnB.out).cell 2
    simp at oc
    go_simp
    rfl
  go_frame
  refine Tw.wpTold_tell _ rfl rfl (fun w' hS hh hs => ?_) (fun v8 h8 => ?_)
  · have ox := hS.1.blk HBk.out (HnA.out) (HnB.out)
    have oc := ox.cell 2
    simp at oc
    have hbw := hS.1.below HlA.out HlB.out hs4
    exact ⟨.slice (some ⟨w'.heap.size, 0, none⟩) 1 1, w'.alloc (.cells #[.slice Av nv cv] 26), by go_simp <;> rfl, ⟨⟨_, _, rfl⟩, RF.lit (HVb.out.keep fun p hp => hbw.cell hp) hS.1.size hs4 (Nat.le_refl _), lit_blk _ _⟩, r37_no (by decide) (by decide) (grown_alloc _ _)⟩
  obtain ⟨g8, c8, rfl⟩ := h8
  go_frame
  refine Tw.wpTold_tell _ rfl rfl (fun w' hS hh hs => ?_) (fun v9 h9 => ?_)
  · obtain ⟨⟨Ax, cx, ex, rx, ox⟩, kx⟩ := hS.2.2
    injection ex with ex1 _ ex2
    subst ex1 ex2
    obtain ⟨⟨Ay, cy, ey, ry, oy⟩, ky⟩ := hs.1 8 _ _ (by kernel_rfl) rfl rfl
    injection ey with ey1 _ ey2
    subst ey1 ey2
    obtain ⟨A2, c2, w9, hrun, ht, hgr, hfr, hkp, hgn⟩ := run_appT (ty := 46) rx ⟨g8, 0, none⟩ _ 1 c8 [val] ry.tx (by omega) (Nat.le_refl _) kx (by omega)
    exact ⟨_, w9, exec_append (.tmp 198) (.tmp 201) rfl rfl rfl hrun, ⟨⟨_, _, rfl⟩, ⟨⟨_, _, rfl, ht, fun g' e => (hfr g' e).imp (fun h => Nat.le_trans hS.1.size h) id⟩, Nat.le_trans kx hgr.size⟩, fun g' e => hfr g' (by rw [blk_own] at e; exact e)⟩, r37_b ⟨hgr, fun u hu => by obtain ⟨⟨A', c', e', r', o'⟩, k'⟩ := hu; exact ⟨⟨A', c', e', hkp A' c' r', o'⟩, Nat.le_trans k' hgr.size⟩⟩⟩
  obtain ⟨A9, c9, rfl⟩ := h9
  go_frame
  refine Tw.wpTold_read ?_ rfl rfl (fun w' hS => ?_) ?_
  rotate_left
  · go_simp
    rfl
  go_frame
  refine Tw.wpTold_read ?_ rfl rfl (fun w' hS => ?_) ?_
  rotate_left
  · go_simp
    rfl
  go_frame
  refine Tw.wpTold_nil fun w5 hH => ?_
  have hsv : Sv w4 (blk A) (blk B) w5 := hH.s.1
  have g4 : RF w.heap.size w.heap.size w4.heap.size (blk A) (nn + 1) (ks ++ [key]) (.slice A4 (nn + 1) c4) w5 := hH.told 4 _ _ rfl rfl
  have g9 : RF w.heap.size w.heap.size w4.heap.size (blk B) (nn + 1) (vs ++ [val]) (.slice A9 (nn + 1) c9) w5 := hH.told 9 _ _ rfl rfl
  have hap := hH.pair 4 9 _ _ _ _ rfl rfl (by omega) rfl rfl rfl rfl
  have HM : Hid (MI w kd v A4 A9 (nn + 1) c4 c9 w5 bs p (ks ++ [key]) (vs ++ [val])) := by
    obtain ⟨⟨A4', c4', e4, r4, _⟩, _⟩ := g4
    obtain ⟨⟨A9', c9', e9, r9, _⟩, _⟩ := g9
    injection e4 with e1 _ e2
    injection e9 with e3 _ e4
    subst e1 e2 e3 e4
    exact ⟨own_sv HIm.out.own fun g hg => hsv.block g (own_in HIm.out.own hg) (HIm.out.ra.neOwn HIm.out.own hg) (HIm.out.rb.neOwn HIm.out.own hg), HIm.out.unp, HIm.out.kind, HIm.out.next, HIm.out.mp, r4, r9, fun g e => by have := hap g (by rw [blk_own]; exact e); rw [blk_own] at this; exact this, HIm.out.bel.trans (hsv.below HlA.out HlB.out hs4)⟩
  clear hH hsv g4 g9 hap
  go_wp2_with fail
  exact H1.out _ _ _ _ _ _ ⟨rfl, rfl, rfl, rfl, rfl, rfl, rfl, rfl, trivial⟩ HM.out
end Go.Proofs.Ytpoilndlfbmhgaa
