/-
  PageMap: what is known at each place, and the parts of its code. Conditions: none.
-/
import Derived.Test.YtpoilndlfbmhgaaMapReg
import Derived.Test.YtpoilndlfbmhgaaOpenOp
import Derived.Test.YtpoilndlfbmhgaaPageReadsW
import Derived.Test.YtpoilndlfbmhgaaPiece284
namespace Go.Proofs.Ytpoilndlfbmhgaa
open Go.RowKit

/-- Where the script stands: the page's bytes, the keys and the values. -/
structure MI (w : World) (kd : UInt8) (b : Value) (A B : Option Addr) (nn cA cB : Nat) (wr : World) (bs : List UInt8) (p : Pag.Pg) (ks vs : Pag.Txs) : Prop where
  own : Ow wr w.heap.size b bs
  unp : Pag.unpB bs = some p
  kind : p.kind = kd
  next : p.next = 7
  mp : Pag.Mp p.cells ks vs
  ra : TR wr w.heap.size w.heap.size A nn cA ks
  rb : TR wr w.heap.size w.heap.size B nn cB vs
  ab : ∀ g, blk A = some g → blk B ≠ some g
  bel : Below w.heap.size w wr
theorem MI.below {w : World} {kd : UInt8} {b : Value} {A B : Option Addr} {nn cA cB : Nat} {w1 w2 : World} {bs : List UInt8} {p : Pag.Pg} {ks vs : Pag.Txs} (h : MI w kd b A B nn cA cB w1 bs p ks vs) (hb : Below w1.heap.size w1 w2) : MI w kd b A B nn cA cB w2 bs p ks vs :=
  ⟨own_below h.own hb, h.unp, h.kind, h.next, h.mp, h.ra.below hb (Nat.le_refl _) h.bel.size, h.rb.below hb (Nat.le_refl _) h.bel.size, h.ab, h.bel.trans (hb.mono h.bel.size)⟩
theorem MI.bytes {w : World} {kd : UInt8} {Ab : Option Addr} {cb : Nat} {A B : Option Addr} {nn cA cB : Nat} {w1 : World} {bs : List UInt8} {p : Pag.Pg} {ks vs : Pag.Txs} (h : MI w kd (.slice Ab 4080 cb) A B nn cA cB w1 bs p ks vs) (hl : bs.length = 4080) : Rb w1 w1.heap.size Ab 4080 bs := by
  have := h.own
  unfold Ow at this
  rw [hl] at this
  exact Rb.own this
/-- Where the key stands among the first k. -/
def AtI (ks : Pag.Txs) (key : List UInt8) (k : Nat) (a : Int) : Prop := (a = -1 ∧ ∀ i : Nat, i < k → ks[i]? ≠ some key) ∨ ∃ i : Nat, i < k ∧ a = (i : Int) ∧ ks[i]? = some key
theorem unp_len {b : List UInt8} {p : Pag.Pg} (h : Pag.unpB b = some p) : b.length = 4080 := Pag.pack_len (Pag.unpB_pack h)
theorem MI.cap {w : World} {kd : UInt8} {Ab : Option Addr} {cb : Nat} {A B : Option Addr} {nn cA cB : Nat} {w1 : World} {bs : List UInt8} {p : Pag.Pg} {ks vs : Pag.Txs} (h : MI w kd (.slice Ab 4080 cb) A B nn cA cB w1 bs p ks vs) : 4080 ≤ cb ∧ cb ≤ 9223372036854775807 := by
  have hl := unp_len h.unp
  have ho := h.own
  unfold Ow at ho
  rw [hl] at ho
  obtain ⟨gx, cx, hvx, -, -, h1, h2⟩ := own_pos ho (by omega)
  injection hvx with _ _ hcx
  subst hcx
  exact ⟨h1, h2⟩
/-- The code: the parts. pmX: the round's block; pmT: what stands behind the great loop. -/
noncomputable def pm0 : Code := Try.f5.body.getD .skip
noncomputable def pm6 : Code := cR (cR (cR (cR (cR (cR pm0)))))
noncomputable def pmLB : Code := cO (cB (cR (cL pm6)))
noncomputable def pmX : Code := cB (cL (cR pmLB))
noncomputable def pmX1 : Code := cR (cR pmX)
noncomputable def pmX3 : Code := cR (cR pmX1)
noncomputable def pmT : Code := cR pm6
/-- The slots that live through a round. -/
def live (A0 : Option Addr) (n c : Nat) (kd : UInt8) (b : Value) (A B : Option Addr) (nn cA cB j : Nat) : List (Nat × Value) := [(0, .slice A0 n c), (5, .int .u8 (kd.toNat : Int)), (6, b), (8, .slice A nn cA), (9, .slice B nn cB), (10, .int .i64 (j : Nat))]
/-- The call of a round: its number, its kind, key and value, and the block in which it lies. -/
structure OpI (w wr : World) (go kz : Nat) (kv : Int) (Ak Av : Option Addr) (nk ck nv cv : Nat) (key val : List UInt8) : Prop where
  blk : Blk wr go 48 #[.int .i64 kv, .slice Ak nk ck, .slice Av nv cv]
  ky : Rb wr w.heap.size Ak nk key
  vl : Rb wr w.heap.size Av nv val
  lk : nk = key.length
  lv : nv = val.length
  ck1 : nk ≤ ck
  ck2 : ck ≤ 9223372036854775807
  cv1 : nv ≤ cv
  cv2 : cv ≤ 9223372036854775807
  lo : kz ≤ go
theorem OpI.below {w wr w' : World} {go kz : Nat} {kv : Int} {Ak Av : Option Addr} {nk ck nv cv : Nat} {key val : List UInt8} (h : OpI w wr go kz kv Ak Av nk ck nv cv key val) (hb : Below wr.heap.size wr w') (hw : w.heap.size ≤ wr.heap.size) : OpI w w' go kz kv Ak Av nk ck nv cv key val :=
  ⟨h.blk.below hb h.blk.lt, h.ky.below hb hw, h.vl.below hb hw, h.lk, h.lv, h.ck1, h.ck2, h.cv1, h.cv2, h.lo⟩
end Go.Proofs.Ytpoilndlfbmhgaa

/-
  PageMap: the call of a round is taken, and tested. Conditions: none.
-/
namespace Go.Proofs.Ytpoilndlfbmhgaa
open Go.RowKit

set_option linter.unusedVariables false in
set_option maxRecDepth 1000000 in
set_option maxHeartbeats 16000000 in
theorem pm_b {w : World} {A0 : Option Addr} {n c : Nat} {os : List Op1} {kd : UInt8} {Ab : Option Addr} {cb : Nat} {A B : Option Addr} {nn cA cB j : Nat} {w2 : World} {bs : List UInt8} {p : Pag.Pg} {ks vs : Pag.Txs} {Q : Exit → Act → World → Prop} {a : Act} (Y : Code) (hF : Fr a (live A0 n c kd (.slice Ab 4080 cb) A B nn cA cB j)) (HI : MI w kd (.slice Ab 4080 cb) A B nn cA cB w2 bs p ks vs) (hl : OpRd w2 w.heap.size A0 n os) (hj : j < n)
    (h1 : ∀ a' w', Fr a' (live A0 n c kd (.slice Ab 4080 cb) A B nn cA cB j) → MI w kd (.slice Ab 4080 cb) A B nn cA cB w' bs p ks vs → Q (.exit 1) a' w')
    (h2 : ∀ a' w' go kv Ak Av nk ck nv cv key val, Fr a' (live A0 n c kd (.slice Ab 4080 cb) A B nn cA cB j ++ [(11, .pointer (some ⟨go, 0, none⟩))]) → MI w kd (.slice Ab 4080 cb) A B nn cA cB w' bs p ks vs → OpI w w' go w2.heap.size kv Ak Av nk ck nv cv key val → Pag.mayB key val = true → Y.wp Try.prog Q a' w') :
    (Code.seq (cL pmX) (Code.seq (cL (cR pmX)) Y)).wp Try.prog Q a w2 := by
  conv => arg 2; arg 1; whnf
  conv => arg 2; arg 2; arg 1; whnf
  obtain ⟨f, rfl, ⟨s0, s5, s6, s8, s9, s10, _⟩, hfr⟩ := hF.open
  rw [hfr] at s0 s5 s6 s8 s9 s10
  rw [s0, s5, s6, s8, s9, s10]
  clear hF hfr s0 s5 s6 s8 s9 s10
  have HQ1 := hide h1
  have HQ2 := hide h2
  obtain ⟨o, ho⟩ : ∃ o, os[j]? = some o := ⟨os[j]'(by rw [← hl.1]; exact hj), List.getElem?_eq_getElem (by rw [← hl.1]; exact hj)⟩
  obtain ⟨g, off, e1, e2, rfl, hg, c0, c1, c2, d1, d2, q1, q2⟩ := hl.2 j o ho
  obtain ⟨kz, key, val⟩ := o
  simp only at c0 c1 c2 d1 d2 q1 q2
  obtain ⟨Ak, ck, rfl, rk, rk1, rk2, rk3⟩ := d1
  obtain ⟨Av, cv, rfl, rv, rv1, rv2, rv3⟩ := d2
  obtain ⟨nk, hnk⟩ : ∃ nk, nk = key.length := ⟨_, rfl⟩
  obtain ⟨nv, hnv⟩ : ∃ nv, nv = val.length := ⟨_, rfl⟩
  rw [← hnk] at rk rk1 rk2 c1
  rw [← hnv] at rv rv1 rv2 c2
  have hs2 := HI.bel.size
  have c1' : w2.cell? ⟨g, off + j * 3 + 1, none⟩ = some (.slice Ak nk ck) := by rw [Nat.add_assoc]; exact c1
  have c2' : w2.cell? ⟨g, off + j * 3 + 2, none⟩ = some (.slice Av nv cv) := by rw [Nat.add_assoc]; exact c2
  obtain ⟨w3, hw3⟩ : ∃ w3, w3 = w2.alloc (.cells #[.int .i64 kz, .slice Ak nk ck, .slice Av nv cv] 48) := ⟨_, rfl⟩
  have hb3 : Below w2.heap.size w2 w3 := by rw [hw3]; exact (Below.refl _ _).alloc (Nat.le_refl _) _
  have HOp : Hid (Blk w3 w2.heap.size 48 #[.int .i64 kz, .slice Ak nk ck, .slice Av nv cv]) := by rw [hw3]; exact Blk.new _ _ _
  have HI3 := hide (HI.below hb3)
  have HO3 : Hid (OpI w w3 w2.heap.size w2.heap.size kz Ak Av nk ck nv cv key val) := ⟨HOp.out, rk.below hb3 hs2, rv.below hb3 hs2, hnk, hnv, rk2, rk3, rv2, rv3, Nat.le_refl _⟩
  have HMy : Hid (∀ (_ : 1 ≤ nk) (_ : nk ≤ 320) (_ : nv ≤ 576), Pag.mayB key val = true) := fun a b c => by unfold Pag.mayB; rw [← hnk, ← hnv]; simp [a, b, c]
  clear hb3 hnk hnv rk rv c1 c2 h1 h2 hl HI ho
  go_upto_region 12 with fail
  rw [← hw3]
  clear hw3 c0 c1' c2'
  have o0 := HOp.out.cell 0
  have o1 := HOp.out.cell 1
  have o2 := HOp.out.cell 2
  simp at o0 o1 o2
  by_cases x1 : nk = 0
  · have t1 : ((nk : Int) == 0) = true := by simp; omega
    go_wp2_with fail
    exact HQ1.out _ _ ⟨rfl, rfl, rfl, rfl, rfl, rfl, rfl, rfl, trivial⟩ HI3.out
  · have t1 : ((nk : Int) == 0) = false := by simp; omega
    by_cases x2 : 320 < nk
    · have t2 : decide ((320 : Int) < (nk : Int)) = true := by simp; omega
      go_wp2_with fail
      exact HQ1.out _ _ ⟨rfl, rfl, rfl, rfl, rfl, rfl, rfl, rfl, trivial⟩ HI3.out
    · have t2 : decide ((320 : Int) < (nk : Int)) = false := by simp; omega
      by_cases x3 : 576 < nv
      · have t3 : decide ((576 : Int) < (nv : Int)) = true := by simp; omega
        go_wp2_with fail
        exact HQ1.out _ _ ⟨rfl, rfl, rfl, rfl, rfl, rfl, rfl, rfl, trivial⟩ HI3.out
      · have t3 : decide ((576 : Int) < (nv : Int)) = false := by simp; omega
        go_wp2_with fail
        exact HQ2.out _ _ _ _ _ _ _ _ _ _ _ _ ⟨rfl, rfl, rfl, rfl, rfl, rfl, rfl, rfl, rfl, trivial⟩ HI3.out HO3.out (HMy.out (by omega) (by omega) (by omega))
end Go.Proofs.Ytpoilndlfbmhgaa

/-
  PageMap: the key is looked for among the keys. Conditions: none.
-/
namespace Go.Proofs.Ytpoilndlfbmhgaa
open Go.RowKit

set_option linter.unusedVariables false in
set_option maxRecDepth 1000000 in
set_option maxHeartbeats 16000000 in
theorem pm_c {w : World} {A0 : Option Addr} {n c : Nat} {os : List Op1} {kd : UInt8} {Ab : Option Addr} {cb : Nat} {A B : Option Addr} {nn cA cB j : Nat} {w2 : World} {bs : List UInt8} {p : Pag.Pg} {ks vs : Pag.Txs} {go kz : Nat} {kv : Int} {Ak Av : Option Addr} {nk ck nv cv : Nat} {key val : List UInt8} {Q : Exit → Act → World → Prop} {a : Act} (Y : Code) (hF : Fr a (live A0 n c kd (.slice Ab 4080 cb) A B nn cA cB j ++ [(11, .pointer (some ⟨go, 0, none⟩))])) (HI : MI w kd (.slice Ab 4080 cb) A B nn cA cB w2 bs p ks vs) (HO : OpI w w2 go kz kv Ak Av nk ck nv cv key val) (hnn : nn ≤ 60)
    (h1 : ∀ a' w' (z : Int), Fr a' (live A0 n c kd (.slice Ab 4080 cb) A B nn cA cB j ++ [(11, .pointer (some ⟨go, 0, none⟩)), (12, .int .i64 z)]) → MI w kd (.slice Ab 4080 cb) A B nn cA cB w' bs p ks vs → OpI w w' go kz kv Ak Av nk ck nv cv key val → AtI ks key nn z → Y.wp Try.prog Q a' w') :
    (Code.seq (cL pmX1) (Code.seq (cL (cR pmX1)) Y)).wp Try.prog Q a w2 := by
  conv => arg 2; arg 1; whnf
  conv => arg 2; arg 2; arg 1; whnf
  obtain ⟨f, rfl, ⟨s0, s5, s6, s8, s9, s10, s11, _⟩, hfr⟩ := hF.open
  rw [hfr] at s0 s5 s6 s8 s9 s10 s11
  rw [s0, s5, s6, s8, s9, s10, s11]
  clear hF hfr s0 s5 s6 s8 s9 s10 s11
  have H1 := hide h1
  have hs2 := HI.bel.size
  have hgo := HO.blk.lt
  have HMI := hide HI
  have HOI := hide HO
  clear h1 HI HO
  go_wp2_with fail
  go_loopg [12, 13] nn (fun gg z i wr => ∃ (k : Nat) (zz : Int), k ≤ nn ∧ gg = nn - k ∧ i = .int .i64 (k : Nat) ∧ z = .int .i64 zz ∧ Hid (AtI ks key k zz) ∧ Below w2.heap.size w2 wr)
  case atStart => exact ⟨0, -1, Nat.zero_le _, rfl, rfl, rfl, .inl ⟨rfl, fun i hi => absurd hi (by omega)⟩, Below.refl _ _⟩
  case round =>
    obtain ⟨k, zz, hk, rfl, rfl, rfl, HA, hbel⟩ := hrel
    obtain ⟨w5, hw5⟩ : ∃ w5, w5 = wr := ⟨_, rfl⟩
    subst hw5
    have hs5 := hbel.size
    have HB5 := hide hbel
    have HI5 := hide (HMI.out.below hbel)
    have HO5 := hide (HOI.out.below hbel hs2)
    clear hbel
    by_cases hlt : k < nn
    · obtain ⟨g, f', Ax, cx, rfl, hg, hfk, c0, rx, y1, y2, y3⟩ := HI5.out.ra.at hlt
      have o1 := HO5.out.blk.cell 1
      simp at o1
      have hgo5 := HO5.out.blk.lt
      have HFk := hide hfk
      have HRx := hide rx
      have hlt' : decide ((k : Int) < (nn : Int)) = true := by simp; omega
      clear hfk rx
      go_upto_region 17 with fail
      refine wp_region_flow (Up w5) 6 (by kernel_rfl) (by kernel_rfl) (Up.start _) ?_
      simp only [List.take_succ_cons, List.take_zero, List.drop_succ_cons, List.drop_zero]
      refine wpFlow_read ?_ rfl (fun w' hS => ?_) ?_
      rotate_left
      · go_simp
        rfl
      go_frame
      refine wpFlow_read ?_ rfl (fun w' hS => ?_) ?_
      rotate_left
      · go_simp
        rfl
      go_frame
      refine wpFlow_read ?_ rfl (fun w' hS => ?_) ?_
      rotate_left
      · go_simp
        rfl
      go_frame
      refine wpFlow_read ?_ rfl (fun w' hS => ?_) ?_
      rotate_left
      · have c0' := (hS.cell (p := ⟨g, k, none⟩) hg).trans c0
        go_simp
        rfl
      go_frame
      refine wpFlow_read ?_ rfl (fun w' hS => ?_) ?_
      rotate_left
      · go_simp
        rfl
      go_frame
      refine wpFlow_read ?_ rfl (fun w' hS => ?_) ?_
      rotate_left
      · have o1' := (hS.cell (p := ⟨go, 1, none⟩) hgo5).trans o1
        go_simp
        rfl
      go_frame
      refine wpFlow_nil fun w6 hS => ?_
      have HB6 := hide (HB5.out.trans (Below.mono hS hs5))
      have HK6 := hide (HRx.out.below hS (by omega))
      have HL6 := hide (HO5.out.ky.below hS (by omega))
      clear hS c0 o1 hlt'
      go_wp2_with fail
      with_reducible refine (sameBytes_any _ _ _ _ _ _ f' key _ _ _ HK6.out HL6.out).mono ?_
      rintro e w' ⟨rfl, rfl⟩
      cases hq : f' == key with
      | true =>
        have HA2 : Hid (AtI ks key (k + 1) (k : Int)) := .inr ⟨k, by omega, rfl, by rw [HFk.out]; congr 1; exact eq_of_beq hq⟩
        clear hq
        go_wp2_with fail
        go_roundg (nn - (k + 1))
        case measure => omega
        case rel => exact ⟨k + 1, (k : Int), by omega, rfl, by go_num, rfl, HA2.out, HB6.out⟩
      | false =>
        have HA2 : Hid (AtI ks key (k + 1) zz) := by
          rcases HA.out with ⟨e, h⟩ | ⟨i, hi, e, h⟩
          · refine .inl ⟨e, fun i hi h2 => ?_⟩
            rcases Nat.lt_or_ge i k with h3 | h3
            · exact h i h3 h2
            · obtain rfl : i = k := by omega
              rw [HFk.out] at h2
              obtain rfl := Option.some.inj h2
              simp at hq
          · exact .inr ⟨i, by omega, e, h⟩
        clear hq
        go_wp2_with fail
        go_roundg (nn - (k + 1))
        case measure => omega
        case rel => exact ⟨k + 1, zz, by omega, rfl, by go_num, rfl, HA2.out, HB6.out⟩
    · obtain rfl : k = nn := by omega
      go_wp2_with fail
      exact H1.out _ _ zz ⟨rfl, rfl, rfl, rfl, rfl, rfl, rfl, rfl, rfl, rfl, trivial⟩ HI5.out HO5.out HA.out
end Go.Proofs.Ytpoilndlfbmhgaa

/-
  PageMap: a drop. Conditions: none.
-/
namespace Go.Proofs.Ytpoilndlfbmhgaa
open Go.RowKit

theorem AtI.no {ks : Pag.Txs} {key : List UInt8} {nn : Nat} (hn : nn = ks.length) (h : ∀ i : Nat, i < nn → ks[i]? ≠ some key) (i : Nat) : ks[i]? ≠ some key := by
  rcases Nat.lt_or_ge i nn with h1 | h1
  · exact h i h1
  · rw [List.getElem?_eq_none (by omega)]
    simp
set_option linter.unusedVariables false in
set_option maxRecDepth 1000000 in
set_option maxHeartbeats 16000000 in
theorem pm_d {w : World} {A0 : Option Addr} {n c : Nat} {os : List Op1} {kd : UInt8} {Ab : Option Addr} {cb : Nat} {A B : Option Addr} {nn cA cB j : Nat} {w2 : World} {bs : List UInt8} {p : Pag.Pg} {ks vs : Pag.Txs} {go kz : Nat} {kv : Int} {Ak Av : Option Addr} {nk ck nv cv : Nat} {key val : List UInt8} {z : Int} {Q : Exit → Act → World → Prop} {a : Act} (hF : Fr a (live A0 n c kd (.slice Ab 4080 cb) A B nn cA cB j ++ [(11, .pointer (some ⟨go, 0, none⟩)), (12, .int .i64 z)])) (HI : MI w kd (.slice Ab 4080 cb) A B nn cA cB w2 bs p ks vs) (HO : OpI w w2 go kz kv Ak Av nk ck nv cv key val) (hnn : nn ≤ 60) (hk : Pag.mayB key val = true) (hz : AtI ks key nn z)
    (h1 : ∀ a' w' b' bs' p' A' B' nn' cA' cB' ks' vs', nn' ≤ nn → Fr a' (live A0 n c kd b' A' B' nn' cA' cB' j) → MI w kd b' A' B' nn' cA' cB' w' bs' p' ks' vs' → Q (.exit 1) a' w')
    (h2 : ∀ a', Fr a' (live A0 n c kd (.slice Ab 4080 cb) A B nn cA cB j ++ [(11, .pointer (some ⟨go, 0, none⟩)), (12, .int .i64 z)]) → Q .normal a' w2) :
    (cL pmX3).wp Try.prog Q a w2 := by
  conv => arg 2; whnf
  obtain ⟨f, rfl, ⟨s0, s5, s6, s8, s9, s10, s11, s12, _⟩, hfr⟩ := hF.open
  rw [hfr] at s0 s5 s6 s8 s9 s10 s11 s12
  rw [s0, s5, s6, s8, s9, s10, s11, s12]
  clear hF hfr s0 s5 s6 s8 s9 s10 s11 s12
  have H1 := hide h1
  have H2 := hide h2
  have hs2 := HI.bel.size
  have HMI := hide HI
  have HOI := hide HO
  have hbl := unp_len HI.unp
  obtain ⟨hc1, hc2⟩ := HI.cap
  have hr := Pag.right_rise (Pag.unpB_right HI.unp).1
  have hnk := HI.ra.1
  have hnv := HI.rb.1
  have HR := hide hr
  have HBl := hide hbl
  have HNk := hide hnk
  have HNv := hide hnv
  have HMy := hide hk
  have o0 := HO.blk.cell 0
  have o1 := HO.blk.cell 1
  simp at o0 o1
  clear h1 h2 HI HO hr hbl hnk hnv hk
  by_cases hev : kv.tmod 2 = 0
  · have t1 : (kv.tmod 2 == 0) = true := by rw [hev]; rfl
    obtain ⟨x, hx, hu⟩ := Pag.drop_can (key := key) HMI.out.unp
    have HX := hide hx
    have HU := hide hu
    have HZ := hide hz
    clear hx hu hev hz
    go_wp2_with fail
    have cp := drop_any Ab Ak 4080 cb nk ck bs key _ (HMI.out.bytes HBl.out) (by omega) hc1 hc2 (HOI.out.ky.more hs2)
    rw [HX.out] at cp
    with_reducible refine cp.mono ?_
    clear cp
    rintro e w4 ⟨hb4, v4, rfl, ho4⟩
    simp only at ho4 ⊢
    have hs4 := hb4.size
    have HI4 := hide (HMI.out.below hb4)
    have HO4 : Hid (Ow w4 w.heap.size v4 x) := own_base ho4 hs2
    clear ho4 hb4 o0 o1 t1
    have hz := HZ.out
    rcases hz with ⟨rfl, hno⟩ | ⟨i, hi, rfl, hat⟩
    · have hh : Pag.hasB p.cells key = false := HMI.out.mp.no (AtI.no HNk.out hno)
      rw [hh]
      have HM : Hid (MI w kd v4 A B nn cA cB w4 x p ks vs) := by
        have hu := HU.out
        rw [hh] at hu
        simp only [Bool.false_eq_true, if_false] at hu
        exact ⟨HO4.out, hu, HI4.out.kind, HI4.out.next, HI4.out.mp, HI4.out.ra, HI4.out.rb, HI4.out.ab, HI4.out.bel⟩
      clear hh hno
      go_wp2_with fail
      exact H1.out _ _ _ _ _ _ _ _ _ _ _ _ (Nat.le_refl _) ⟨rfl, rfl, rfl, rfl, rfl, rfl, rfl, rfl, trivial⟩ HM.out
    · obtain ⟨gA, fA, _, _, rfl, hgA, hfA, _⟩ := HI4.out.ra.at hi
      obtain ⟨gB, fB, _, _, rfl, hgB, hfB, _⟩ := HI4.out.rb.at hi
      have hh : Pag.hasB p.cells key = true := (HMI.out.mp.at HR.out hat hfB).2
      have hme := HMI.out.mp.erase HR.out hat hfB
      rw [hh]
      have hu := HU.out
      rw [hh] at hu
      simp only [if_true] at hu
      have HU2 := hide hu
      have HME := hide hme
      have hca : nn ≤ cA := HI4.out.ra.2.1
      have hcb : nn ≤ cB := HI4.out.rb.2.1
      obtain ⟨q, hq⟩ : ∃ q, q = i + 1 := ⟨_, rfl⟩
      rw [← hq] at HME
      have HQe := hide hq
      have hq1 : q ≤ nn := by omega
      have hq2 : i < q := by omega
      clear hu hme hh hat hfA hfB hq
      obtain ⟨oA, hoA⟩ : ∃ o, o = if cA = q then 0 else q := ⟨_, rfl⟩
      obtain ⟨oB, hoB⟩ : ∃ o, o = if cB = q then 0 else q := ⟨_, rfl⟩
      obtain ⟨mq, hmq⟩ : ∃ m, m = nn - q := ⟨_, rfl⟩
      obtain ⟨dA, hdA⟩ : ∃ m, m = cA - q := ⟨_, rfl⟩
      obtain ⟨dB, hdB⟩ : ∃ m, m = cB - q := ⟨_, rfl⟩
      have HoA := hide hoA
      have HoB := hide hoB
      have HmQ := hide hmq
      have HdA := hide hdA
      have HdB := hide hdB
      clear hoA hoB hmq hdA hdB
      go_upto_region 25 with fail
      by_cases hm : nn ≤ q
      · have Hm0 : Hid (mq = 0) := by show _ = _; rw [HmQ.out]; omega
        refine wp_region_toldL (tab []) (Up w4) (w4.heap.size) 20 (shp []) (shp_some (l := []) (fun p hp => by cases hp)) (tab_stable (l := []) (fun p hp => by cases hp)) (Up.lives _) (Gro) (Gro.turns (Up.lives _) (tab_stable (l := []) (fun p hp => by cases hp))) (by kernel_rfl) (by kernel_rfl) (Up.start _) (Nat.le_refl _) ?_
        simp only [List.take_succ_cons, List.take_zero, List.drop_succ_cons, List.drop_zero]
        refine wpTold_read ?_ rfl rfl (fun w' hS => ?_) ?_
        rotate_left
        · go_simp
          rfl
        go_frame
        refine wpTold_read ?_ rfl rfl (fun w' hS => ?_) ?_
        rotate_left
        · go_simp
          rfl
        go_frame
        refine wpTold_read ?_ rfl rfl (fun w' hS => ?_) ?_
        rotate_left
        · go_simp
          rfl
        go_frame
        refine wpTold_read ?_ rfl rfl (fun w' hS => ?_) ?_
        rotate_left
        · have s3 := run_textsTo w' (some ⟨gA, 0, none⟩) nn cA i (by omega)
          go_simp
          rfl
        go_frame
        refine wpTold_read ?_ rfl rfl (fun w' hS => ?_) ?_
        rotate_left
        · go_simp
          rfl
        go_frame
        refine wpTold_read ?_ rfl rfl (fun w' hS => ?_) ?_
        rotate_left
        · go_simp
          rfl
        go_frame
        refine wpTold_read ?_ rfl rfl (fun w' hS => ?_) ?_
        rotate_left
        · have s6 : IntKind.i64.wrap ((i : Int) + 1) = (q : Int) := by rw [IntWalk.i64_in _ (by omega)]; have := HQe.out; omega
          go_simp
          rfl
        go_frame
        refine wpTold_read ?_ rfl rfl (fun w' hS => ?_) ?_
        rotate_left
        · have s7 := run_textsFromO w' gA nn cA q (by omega) HoA.out HmQ.out HdA.out
          go_simp
          rfl
        go_frame
        refine wpTold_read ?_ rfl rfl (fun w' hS => ?_) ?_
        rotate_left
        · exact exec_append (.tmp 108) (.tmp 112) rfl rfl rfl (by rw [Hm0.out]; exact run_app0 ((HI4.out.ra.cut (i := i) (by omega)).below hS (Nat.le_refl _) HI4.out.bel.size) (by simp) _ _)
        go_frame
        refine wpTold_read ?_ rfl rfl (fun w' hS => ?_) ?_
        rotate_left
        · go_simp
          rfl
        go_frame
        refine wpTold_read ?_ rfl rfl (fun w' hS => ?_) ?_
        rotate_left
        · go_simp
          rfl
        go_frame
        refine wpTold_read ?_ rfl rfl (fun w' hS => ?_) ?_
        rotate_left
        · go_simp
          rfl
        go_frame
        refine wpTold_read ?_ rfl rfl (fun w' hS => ?_) ?_
        rotate_left
        · have s3 := run_textsTo w' (some ⟨gB, 0, none⟩) nn cB i (by omega)
          go_simp
          rfl
        go_frame
        refine wpTold_read ?_ rfl rfl (fun w' hS => ?_) ?_
        rotate_left
        · go_simp
          rfl
        go_frame
        refine wpTold_read ?_ rfl rfl (fun w' hS => ?_) ?_
        rotate_left
        · go_simp
          rfl
        go_frame
        refine wpTold_read ?_ rfl rfl (fun w' hS => ?_) ?_
        rotate_left
        · have s6 : IntKind.i64.wrap ((i : Int) + 1) = (q : Int) := by rw [IntWalk.i64_in _ (by omega)]; have := HQe.out; omega
          go_simp
          rfl
        go_frame
        refine wpTold_read ?_ rfl rfl (fun w' hS => ?_) ?_
        rotate_left
        · have s7 := run_textsFromO w' gB nn cB q (by omega) HoB.out HmQ.out HdB.out
          go_simp
          rfl
        go_frame
        refine wpTold_read ?_ rfl rfl (fun w' hS => ?_) ?_
        rotate_left
        · exact exec_append (.tmp 117) (.tmp 121) rfl rfl rfl (by rw [Hm0.out]; exact run_app0 ((HI4.out.rb.cut (i := i) (by omega)).below hS (Nat.le_refl _) HI4.out.bel.size) (by simp) _ _)
        go_frame
        refine wpTold_read ?_ rfl rfl (fun w' hS => ?_) ?_
        rotate_left
        · go_simp
          rfl
        go_frame
        refine wpTold_read ?_ rfl rfl (fun w' hS => ?_) ?_
        rotate_left
        · go_simp
          rfl
        go_frame
        refine wpTold_nil fun w5 hH => ?_
        have hup : Below w4.heap.size w4 w5 := hH.s
        have HI5 := hide (HI4.out.below hup)
        have HM : Hid (MI w kd v4 (some ⟨gA, 0, none⟩) (some ⟨gB, 0, none⟩) i i i w5 x ⟨p.kind, p.next, p.cells.eraseIdx (Pag.findN p.cells key)⟩ (ks.take i) (vs.take i)) := by
          have hme := HME.out
          rw [List.drop_of_length_le (by rw [← HNk.out]; omega), List.drop_of_length_le (by rw [← HNv.out]; omega), List.append_nil, List.append_nil] at hme
          exact ⟨own_below HO4.out hup, HU2.out, HI5.out.kind, HI5.out.next, hme, HI5.out.ra.cut (by omega), HI5.out.rb.cut (by omega), HI5.out.ab, HI5.out.bel⟩
        clear hH hup
        go_wp2_with fail
        exact H1.out _ _ _ _ _ _ _ _ _ _ _ _ (by omega) ⟨rfl, rfl, rfl, rfl, rfl, rfl, rfl, rfl, trivial⟩ HM.out
      · refine Tw.wp_region_toldL (T2 8 17 w.heap.size w.heap.size (nn - 1) (ks.take i ++ ks.drop q) (vs.take i ++ vs.drop q)) (Up w4) (w4.heap.size) 20 (sh2 8 17 (nn - 1)) (sh2_some 8 17 _) (T2.stable _ _ _ _ _ _ _) (Up.lives _) (Gro) (turns2 _ _ _ _ _ _ _ _) (by kernel_rfl) (by kernel_rfl) (Up.start _) (Nat.le_refl _) ?_
        simp only [List.take_succ_cons, List.take_zero, List.drop_succ_cons, List.drop_zero]
        refine Tw.wpTold_read ?_ rfl rfl (fun w' hS => ?_) ?_
        rotate_left
        · go_simp
          rfl
        go_frame
        refine Tw.wpTold_read ?_ rfl rfl (fun w' hS => ?_) ?_
        rotate_left
        · go_simp
          rfl
        go_frame
        refine Tw.wpTold_read ?_ rfl rfl (fun w' hS => ?_) ?_
        rotate_left
        · go_simp
          rfl
        go_frame
        refine Tw.wpTold_read ?_ rfl rfl (fun w' hS => ?_) ?_
        rotate_left
        · have s3 := run_textsTo w' (some ⟨gA, 0, none⟩) nn cA i (by omega)
          go_simp
          rfl
        go_frame
        refine Tw.wpTold_read ?_ rfl rfl (fun w' hS => ?_) ?_
        rotate_left
        · go_simp
          rfl
        go_frame
        refine Tw.wpTold_read ?_ rfl rfl (fun w' hS => ?_) ?_
        rotate_left
        · go_simp
          rfl
        go_frame
        refine Tw.wpTold_read ?_ rfl rfl (fun w' hS => ?_) ?_
        rotate_left
        · have s6 : IntKind.i64.wrap ((i : Int) + 1) = (q : Int) := by rw [IntWalk.i64_in _ (by omega)]; have := HQe.out; omega
          go_simp
          rfl
        go_frame
        refine Tw.wpTold_read ?_ rfl rfl (fun w' hS => ?_) ?_
        rotate_left
        · have s7 := run_textsFromO w' gA nn cA q (by omega) HoA.out HmQ.out HdA.out
          go_simp
          rfl
        go_frame
        refine Tw.wpTold_tell _ rfl rfl (fun w' hS hh hs => ?_) (fun v8 h8 => ?_)
        · have hr := ((HI4.out.ra.below hS (Nat.le_refl _) HI4.out.bel.size))
          have hx := hr.fromO (i := q) (by omega) HoA.out HmQ.out
          obtain ⟨A2, c2, w9, hrun, ht, hgr, hfr, hkp, hgn⟩ := run_appT (ty := 46) (hr.cut (i := i) (by omega)) ⟨gA, oA, none⟩ _ mq dA (ks.drop q) hx (by have := HmQ.out; omega) (Nat.le_refl _) (Nat.le_trans HI4.out.bel.size hS.size) (by have := HmQ.out; omega)
          obtain ⟨hg0, hfr0⟩ := hgn (by have := HQe.out; have := HmQ.out; omega)
          rw [show i + mq = nn - 1 by have := HQe.out; have := HmQ.out; omega] at hrun ht
          have hbb : Below w'.heap.size w' w9 := ⟨hg0.os, hg0.tape, hg0.output, hg0.size, fun k hk => hg0.block k hk (by simp)⟩
          exact ⟨_, w9, exec_append (.tmp 108) (.tmp 112) rfl rfl rfl hrun, ⟨⟨_, _, rfl⟩, ⟨⟨_, _, rfl, ht⟩, Nat.le_trans (Nat.le_trans HI4.out.bel.size hS.size) hg0.size⟩, fun g' e => .inl (hfr0 g' (by rw [blk_own] at e; exact e))⟩, hbb⟩
        obtain ⟨A8, c8, rfl⟩ := h8
        go_frame
        refine Tw.wpTold_read ?_ rfl rfl (fun w' hS => ?_) ?_
        rotate_left
        · go_simp
          rfl
        go_frame
        refine Tw.wpTold_read ?_ rfl rfl (fun w' hS => ?_) ?_
        rotate_left
        · go_simp
          rfl
        go_frame
        refine Tw.wpTold_read ?_ rfl rfl (fun w' hS => ?_) ?_
        rotate_left
        · go_simp
          rfl
        go_frame
        refine Tw.wpTold_read ?_ rfl rfl (fun w' hS => ?_) ?_
        rotate_left
        · have s3 := run_textsTo w' (some ⟨gB, 0, none⟩) nn cB i (by omega)
          go_simp
          rfl
        go_frame
        refine Tw.wpTold_read ?_ rfl rfl (fun w' hS => ?_) ?_
        rotate_left
        · go_simp
          rfl
        go_frame
        refine Tw.wpTold_read ?_ rfl rfl (fun w' hS => ?_) ?_
        rotate_left
        · go_simp
          rfl
        go_frame
        refine Tw.wpTold_read ?_ rfl rfl (fun w' hS => ?_) ?_
        rotate_left
        · have s6 : IntKind.i64.wrap ((i : Int) + 1) = (q : Int) := by rw [IntWalk.i64_in _ (by omega)]; have := HQe.out; omega
          go_simp
          rfl
        go_frame
        refine Tw.wpTold_read ?_ rfl rfl (fun w' hS => ?_) ?_
        rotate_left
        · have s7 := run_textsFromO w' gB nn cB q (by omega) HoB.out HmQ.out HdB.out
          go_simp
          rfl
        go_frame
        refine Tw.wpTold_tell _ rfl rfl (fun w' hS hh hs => ?_) (fun v17 h17 => ?_)
        · have hr := ((HI4.out.rb.below hS (Nat.le_refl _) HI4.out.bel.size))
          have hx := hr.fromO (i := q) (by omega) HoB.out HmQ.out
          obtain ⟨A2, c2, w9, hrun, ht, hgr, hfr, hkp, hgn⟩ := run_appT (ty := 46) (hr.cut (i := i) (by omega)) ⟨gB, oB, none⟩ _ mq dB (vs.drop q) hx (by have := HmQ.out; omega) (Nat.le_refl _) (Nat.le_trans HI4.out.bel.size hS.size) (by have := HmQ.out; omega)
          obtain ⟨hg0, hfr0⟩ := hgn (by have := HQe.out; have := HmQ.out; omega)
          rw [show i + mq = nn - 1 by have := HQe.out; have := HmQ.out; omega] at hrun ht
          have hbb : Below w'.heap.size w' w9 := ⟨hg0.os, hg0.tape, hg0.output, hg0.size, fun k hk => hg0.block k hk (by simp)⟩
          exact ⟨_, w9, exec_append (.tmp 117) (.tmp 121) rfl rfl rfl hrun, ⟨⟨_, _, rfl⟩, ⟨⟨_, _, rfl, ht⟩, Nat.le_trans (Nat.le_trans HI4.out.bel.size hS.size) hg0.size⟩, fun g' e => .inl (hfr0 g' (by rw [blk_own] at e; exact e))⟩, hbb⟩
        obtain ⟨A17, c17, rfl⟩ := h17
        go_frame
        refine Tw.wpTold_read ?_ rfl rfl (fun w' hS => ?_) ?_
        rotate_left
        · go_simp
          rfl
        go_frame
        refine Tw.wpTold_read ?_ rfl rfl (fun w' hS => ?_) ?_
        rotate_left
        · go_simp
          rfl
        go_frame
        refine Tw.wpTold_nil fun w5 hH => ?_
        have hup : Below w4.heap.size w4 w5 := hH.s
        have g8 : RFn w.heap.size w.heap.size (nn - 1) (ks.take i ++ ks.drop q) (.slice A8 (nn - 1) c8) w5 := hH.told 8 _ _ rfl rfl
        have g17 : RFn w.heap.size w.heap.size (nn - 1) (vs.take i ++ vs.drop q) (.slice A17 (nn - 1) c17) w5 := hH.told 17 _ _ rfl rfl
        have hap := hH.pair 8 17 _ _ _ _ rfl rfl (by omega) rfl rfl rfl rfl
        have HI5 := hide (HI4.out.below hup)
        have HM : Hid (MI w kd v4 A8 A17 (nn - 1) c8 c17 w5 x ⟨p.kind, p.next, p.cells.eraseIdx (Pag.findN p.cells key)⟩ (ks.take i ++ ks.drop q) (vs.take i ++ vs.drop q)) := by
          obtain ⟨⟨A8', c8', e8, r8⟩, _⟩ := g8
          obtain ⟨⟨A17', c17', e17, r17⟩, _⟩ := g17
          injection e8 with e1 _ e2
          injection e17 with e3 _ e4
          subst e1 e2 e3 e4
          exact ⟨own_below HO4.out hup, HU2.out, HI5.out.kind, HI5.out.next, HME.out, r8, r17, fun g e => by have := hap g (by rw [blk_own]; exact e); rw [blk_own] at this; exact this, HI5.out.bel⟩
        clear hH hup g8 g17 hap
        go_wp2_with fail
        exact H1.out _ _ _ _ _ _ _ _ _ _ _ _ (by omega) ⟨rfl, rfl, rfl, rfl, rfl, rfl, rfl, rfl, trivial⟩ HM.out
  · have t1 : (kv.tmod 2 == 0) = false := by simp; exact hev
    clear hev
    go_wp2_with fail
    exact H2.out _ ⟨rfl, rfl, rfl, rfl, rfl, rfl, rfl, rfl, rfl, rfl, trivial⟩
end Go.Proofs.Ytpoilndlfbmhgaa
