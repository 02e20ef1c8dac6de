/-
  PageMap: what stands behind the great loop. Conditions: none.
-/
import Derived.Test.YtpoilndlfbmhgaaMapG
namespace Go.Proofs.Ytpoilndlfbmhgaa
open Go.RowKit

noncomputable def pmT1 : Code := cR pmT
noncomputable def pmT2 : Code := cR pmT1
noncomputable def pmT3 : Code := cR pmT2
noncomputable def pmT4 : Code := cR pmT3
/-- The slots that live behind the great loop. -/
def lv2 (kd : UInt8) (b : Value) (A B : Option Addr) (nn cA cB : Nat) : List (Nat × Value) := [(5, .int .u8 (kd.toNat : Int)), (6, b), (8, .slice A nn cA), (9, .slice B nn cB)]
/-- The page that was read. -/
structure PB (wr : World) (gp : Nat) (kd : UInt8) (Ap : Option Addr) (nn cp : Nat) (p : Pag.Pg) : Prop where
  blk : Blk wr gp 25 #[.int .u8 (kd.toNat : Int), .int .i64 7, .slice Ap nn cp]
  cells : CeRd wr gp Ap nn p.cells
  c1 : nn ≤ cp
  c2 : cp ≤ 9223372036854775807
theorem PB.below {w w' : World} {gp : Nat} {kd : UInt8} {Ap : Option Addr} {nn cp : Nat} {p : Pag.Pg} (h : PB w gp kd Ap nn cp p) (hb : Below w.heap.size w w') : PB w' gp kd Ap nn cp p :=
  ⟨h.blk.below hb h.blk.lt, h.cells.keep fun _ hp => hb.cell (Nat.lt_trans hp h.blk.lt), h.c1, h.c2⟩
theorem less_cmp : ∀ l m, Op.bytesLess l m = decide (cmpB l m = -1) := by
  intro l
  induction l with
  | nil => intro m; cases m <;> simp [Op.bytesLess, cmpB]
  | cons c l ih =>
    intro m
    cases m with
    | nil => simp [Op.bytesLess, cmpB]
    | cons d m =>
      simp only [Op.bytesLess, cmpB, ih]
      by_cases h : c < d
      · simp [h]
      · by_cases h2 : d < c
        · have : ¬ c = d := fun e => by rw [e] at h2; exact absurd h2 (UInt8.lt_irrefl _)
          simp [h, h2, this]
        · have : c = d := UInt8.le_antisymm (UInt8.not_lt.1 h2) (UInt8.not_lt.1 h)
          subst this
          simp [h]
theorem less_of {l m : List UInt8} (h : cmpB l m < 0) : Op.bytesLess (ByteArray.mk l.toArray).toList (ByteArray.mk m.toArray).toList = true := by
  rw [ByteArray.toList_eq, ByteArray.toList_eq, less_cmp]
  have : cmpB l m = -1 := by
    rcases cmpB_range l m with h1 | h1 | h1 <;> omega
  simpa using this
set_option linter.unusedVariables false in
set_option maxRecDepth 1000000 in
set_option maxHeartbeats 16000000 in
theorem pm_t1 {w : World} {kd : UInt8} {Ab : Option Addr} {cb : Nat} {A B : Option Addr} {nn cA cB : Nat} {w2 : World} {bs : List UInt8} {p : Pag.Pg} {ks vs : Pag.Txs} {Q : Exit → Act → World → Prop} {a : Act} (Y : Code) (hF : Fr a (lv2 kd (.slice Ab 4080 cb) A B nn cA cB)) (HI : MI w kd (.slice Ab 4080 cb) A B nn cA cB w2 bs p ks vs)
    (h2 : ∀ a' w' gp Ap cp, Fr a' (lv2 kd (.slice Ab 4080 cb) A B nn cA cB ++ [(22, .pointer (some ⟨gp, 0, none⟩))]) → MI w kd (.slice Ab 4080 cb) A B nn cA cB w' bs p ks vs → PB w' gp kd Ap nn cp p → Y.wp Try.prog Q a' w') :
    (Code.seq (cL pmT) (Code.seq (cL pmT1) Y)).wp Try.prog Q a w2 := by
  conv => arg 2; arg 1; whnf
  conv => arg 2; arg 2; arg 1; whnf
  obtain ⟨f, rfl, ⟨s5, s6, s8, s9, _⟩, hfr⟩ := hF.open
  rw [hfr] at s5 s6 s8 s9
  rw [s5, s6, s8, s9]
  clear hF hfr s5 s6 s8 s9
  have H2 := hide h2
  have HMI := hide HI
  have HBl := hide (unp_len HI.unp)
  obtain ⟨hc1, hc2⟩ := HI.cap
  have hm : p.cells.length = nn := HI.mp.len.trans HI.ra.1.symm
  have hkd := HI.kind
  have hnx := HI.next
  clear h2 HI
  go_wp2_with fail
  with_reducible refine (unpack_any Ab 4080 cb bs _ (HMI.out.bytes HBl.out) (by omega) hc1 hc2).mono ?_
  rintro e w3 ⟨hb3, hr⟩
  rw [HMI.out.unp] at hr
  obtain ⟨v, rfl, Av, cv, rfl, hown⟩ := hr
  have hcr : CeRd w3 w3.heap.size Av p.cells.length p.cells := hown.rd rfl hb3.size
  have hmc : nn ≤ cv ∧ cv ≤ 9223372036854775807 := by
    obtain ⟨A', c', e', x1, x2⟩ := hown.form
    injection e' with _ _ e3
    subst e3
    exact ⟨by omega, x2⟩
  obtain ⟨hmc1, hmc2⟩ := hmc
  rw [hm] at hcr
  rw [hm, hkd, hnx]
  have hs3 := hb3.size
  obtain ⟨w4, hw4⟩ : ∃ w4, w4 = w3.alloc (.cells #[.int .u8 (kd.toNat : Int), .int .i64 7, .slice Av nn cv] 25) := ⟨_, rfl⟩
  have hb4 : Below w3.heap.size w3 w4 := by rw [hw4]; exact (Below.refl _ _).alloc (Nat.le_refl _) _
  have HK4 : Hid (Blk w4 w3.heap.size 25 #[.int .u8 (kd.toNat : Int), .int .i64 7, .slice Av nn cv]) := by rw [hw4]; exact Blk.new _ _ _
  have HI4 := hide ((HMI.out.below hb3).below hb4)
  have HPB : Hid (PB w4 w3.heap.size kd Av nn cv p) := ⟨HK4.out, hcr.keep fun _ hp => hb4.cell hp, hmc1, hmc2⟩
  clear hown hcr hm hkd hnx hb3
  go_upto_region 39 with fail
  rw [← hw4]
  clear hw4 hb4
  have k0 := HK4.out.cell 0
  have k1 := HK4.out.cell 1
  have k2 := HK4.out.cell 2
  simp at k0 k1 k2
  go_wp2_with fail
  exact H2.out _ _ _ _ _ ⟨rfl, rfl, rfl, rfl, rfl, rfl, rfl, trivial⟩ HI4.out HPB.out
set_option linter.unusedVariables false in
set_option maxRecDepth 1000000 in
set_option maxHeartbeats 16000000 in
theorem pm_t2 {w : World} {kd : UInt8} {Ab : Option Addr} {cb : Nat} {A B : Option Addr} {nn cA cB : Nat} {w2 : World} {bs : List UInt8} {p : Pag.Pg} {ks vs : Pag.Txs} {gp cp : Nat} {Ap : Option Addr} {Q : Exit → Act → World → Prop} {a : Act} (Y : Code) (hF : Fr a (lv2 kd (.slice Ab 4080 cb) A B nn cA cB ++ [(22, .pointer (some ⟨gp, 0, none⟩))])) (HI : MI w kd (.slice Ab 4080 cb) A B nn cA cB w2 bs p ks vs) (HP : PB w2 gp kd Ap nn cp p) (hnn : nn ≤ 60)
    (h2 : ∀ a' w', Fr a' [(22, .pointer (some ⟨gp, 0, none⟩))] → Below w.heap.size w w' → PB w' gp kd Ap nn cp p → Y.wp Try.prog Q a' w') :
    (Code.seq (cL pmT2) Y).wp Try.prog Q a w2 := by
  conv => arg 2; arg 1; whnf
  obtain ⟨f, rfl, ⟨s5, s6, s8, s9, s22, _⟩, hfr⟩ := hF.open
  rw [hfr] at s5 s6 s8 s9 s22
  rw [s5, s6, s8, s9, s22]
  clear hF hfr s5 s6 s8 s9 s22
  have H2 := hide h2
  have HMI := hide HI
  have HPB := hide HP
  have HBl := hide (unp_len HI.unp)
  have hs2 := HI.bel.size
  obtain ⟨hc1, hc2⟩ := HI.cap
  clear h2 HI HP
  go_wp2_with fail
  go_loopg [24] nn (fun gg i wr => ∃ k : Nat, k ≤ nn ∧ gg = nn - k ∧ i = .int .i64 (k : Nat) ∧ Below w2.heap.size w2 wr)
  case atStart => exact ⟨0, Nat.zero_le _, rfl, rfl, Below.refl _ _⟩
  case round =>
    obtain ⟨k, hk, rfl, rfl, hbel⟩ := hrel
    obtain ⟨w5, hw5⟩ : ∃ w5, w5 = wr := ⟨_, rfl⟩
    subst hw5
    have hs5 := hbel.size
    have HB5 := hide hbel
    have HI5 := hide (HMI.out.below hbel)
    clear hbel
    by_cases hlt : k < nn
    · obtain ⟨g, f', Ax, cx, rfl, hg, hfk, c0, rx, y1, y2, y3⟩ := HI5.out.ra.at hlt
      have HFk := hide hfk
      have HRx := hide rx
      have hlt' : decide ((k : Int) < (nn : Int)) = true := by simp; omega
      clear hfk rx
      go_wp2_with fail
      with_reducible refine (Find_any Ab Ax 4080 cb f'.length cx bs f' _ (HI5.out.bytes HBl.out) (by omega) hc1 hc2 (HRx.out.more (by omega))).mono ?_
      rintro e w6 ⟨hb6, v6, rfl, hbo⟩
      have HI6 := hide (HI5.out.below hb6)
      obtain ⟨gB, fB, AxB, cxB, rfl, hgB, hfB, cB0, rxB, yB1, yB2, yB3⟩ := HI6.out.rb.at hlt
      rw [Pag.find_can HI6.out.unp HI6.out.mp HFk.out hfB] at hbo ⊢
      simp only at hbo ⊢
      have hs6 := hb6.size
      obtain ⟨A6, c6, rfl, hr6⟩ := hbo.form hs6
      have HR6 := hide hr6
      have HRB := hide rxB
      have HB6 := hide (HB5.out.trans (hb6.mono hs5))
      clear hr6 rxB hbo hb6 hfB c0
      go_wp2_with fail
      with_reducible refine (sameBytes_any _ _ _ _ _ _ fB fB _ _ _ HR6.out HRB.out).mono ?_
      rintro e w' ⟨rfl, rfl⟩
      have hq : (fB == fB) = true := by simp
      rw [hq]
      clear hq cB0
      go_wp2_with fail
      go_roundg (nn - (k + 1))
      case measure => omega
      case rel => exact ⟨k + 1, by omega, rfl, by go_num, HB6.out⟩
    · obtain rfl : k = nn := by omega
      have HP5 := hide (HPB.out.below HB5.out)
      go_wp2_with fail
      exact H2.out _ _ ⟨rfl, rfl, rfl, trivial⟩ HI5.out.bel HP5.out
set_option linter.unusedVariables false in
set_option maxRecDepth 1000000 in
set_option maxHeartbeats 16000000 in
theorem pm_t3 {w w2 : World} {kd : UInt8} {nn gp cp : Nat} {Ap : Option Addr} {p : Pag.Pg} {Q : Exit → Act → World → Prop} {a : Act} (Y : Code) (hF : Fr a [(22, .pointer (some ⟨gp, 0, none⟩))]) (HB : Below w.heap.size w w2) (HP : PB w2 gp kd Ap nn cp p) (hnn : nn ≤ 60) (hr : Pag.riseB p.cells = true)
    (h2 : ∀ a' w', Fr a' [] → Below w.heap.size w w' → Y.wp Try.prog Q a' w') :
    (Code.seq (cL pmT3) Y).wp Try.prog Q a w2 := by
  conv => arg 2; arg 1; whnf
  obtain ⟨f, rfl, ⟨s22, _⟩, hfr⟩ := hF.open
  rw [hfr] at s22
  rw [s22]
  clear hF hfr s22
  have H2 := hide h2
  have HPB := hide HP
  have HB0 := hide HB
  have HR := hide hr
  have hs2 := HB.size
  clear h2 HP HB hr
  go_wp2_with fail
  go_loopg [28] (nn - 1) (fun gg i wr => ∃ k : Nat, 1 ≤ k ∧ gg = nn - k ∧ i = .int .i64 (k : Nat) ∧ Below w2.heap.size w2 wr)
  case atStart => exact ⟨1, Nat.le_refl _, rfl, rfl, Below.refl _ _⟩
  case round =>
    obtain ⟨k, hk, rfl, rfl, hbel⟩ := hrel
    obtain ⟨w5, hw5⟩ : ∃ w5, w5 = wr := ⟨_, rfl⟩
    subst hw5
    have hs5 := hbel.size
    have HB5 := hide hbel
    have HP5 := hide (HPB.out.below hbel)
    have k2 := HP5.out.blk.cell 2
    simp at k2
    have hgp := HP5.out.blk.lt
    clear hbel
    by_cases hlt : k < nn
    · obtain ⟨m, hm⟩ : ∃ m, k = m + 1 := ⟨k - 1, by omega⟩
      have hmk : m < k := by omega
      have HMk := hide hm
      clear hm
      obtain ⟨g, off, f1, A1, c1, _, _, rfl, hg, hf1, d1, _, r1, _⟩ := HP5.out.cells.at (i := m) (by omega)
      obtain ⟨g', off', f2, A2, c2, _, _, e, _, hf2, d2, _, r2, _⟩ := HP5.out.cells.at hlt
      injection e with e
      injection e with e1 e2
      subst e1 e2
      have hlt' : decide ((k : Int) < (nn : Int)) = true := by simp; omega
      have hg5 : g < w5.heap.size := Nat.lt_trans hg hgp
      obtain ⟨S1, hS1⟩ : ∃ S : ByteArray, S = ⟨f1.1.toArray⟩ := ⟨_, rfl⟩
      obtain ⟨S2, hS2⟩ : ∃ S : ByteArray, S = ⟨f2.1.toArray⟩ := ⟨_, rfl⟩
      have tb : Op.bytesLess S1.toList S2.toList = true := by
        rw [hS1, hS2]
        exact less_of (Pag.rise_pair p.cells HR.out m k _ _ hmk hf1 hf2)
      have HS1 := hide hS1
      have HS2 := hide hS2
      have HR1 := hide r1
      have HR2 := hide r2
      clear hf1 hf2 r1 r2 hS1 hS2
      go_upto_region 50 with fail
      refine wp_region_flow (Up w5) 15 (by kernel_rfl) (by kernel_rfl) (Up.start _) ?_
      simp only [List.take_succ_cons, List.take_zero, List.drop_succ_cons, List.drop_zero]
      refine wpFlow_read ?_ rfl (fun w' hS => ?_) ?_
      rotate_left
      · go_simp
        rfl
      go_frame
      refine wpFlow_read ?_ rfl (fun w' hS => ?_) ?_
      rotate_left
      · have k2' := (hS.cell (p := ⟨gp, 2, none⟩) hgp).trans k2
        go_simp
        rfl
      go_frame
      refine wpFlow_read ?_ rfl (fun w' hS => ?_) ?_
      rotate_left
      · go_simp
        rfl
      go_frame
      refine wpFlow_read ?_ rfl (fun w' hS => ?_) ?_
      rotate_left
      · have s3 : IntKind.i64.wrap ((k : Int) - 1) = (m : Int) := by rw [IntWalk.i64_in _ (by omega)]; have := HMk.out; omega
        go_simp
        rfl
      go_frame
      refine wpFlow_read ?_ rfl (fun w' hS => ?_) ?_
      rotate_left
      · have hmn : m < nn := by omega
        go_simp
        rfl
      go_frame
      refine wpFlow_read ?_ rfl (fun w' hS => ?_) ?_
      rotate_left
      · go_simp
        rfl
      go_frame
      refine wpFlow_read ?_ rfl (fun w' hS => ?_) ?_
      rotate_left
      · have d1' := (hS.cell (p := ⟨g, off + m * 2, none⟩) hg5).trans d1
        go_simp
        rfl
      go_frame
      refine wpFlow_read ?_ rfl (fun w' hS => ?_) ?_
      rotate_left
      · have sc := ((HR1.out.below hS (Nat.le_of_lt hgp)).run_string (P := Try.prog) 26 5 9 c1 Try.underlying26 Try.underlying5 Try.underlying9)
        rw [← HS1.out] at sc
        go_simp
        rfl
      go_frame
      refine wpFlow_read ?_ rfl (fun w' hS => ?_) ?_
      rotate_left
      · go_simp
        rfl
      go_frame
      refine wpFlow_read ?_ rfl (fun w' hS => ?_) ?_
      rotate_left
      · have k2' := (hS.cell (p := ⟨gp, 2, none⟩) hgp).trans k2
        go_simp
        rfl
      go_frame
      refine wpFlow_read ?_ rfl (fun w' hS => ?_) ?_
      rotate_left
      · go_simp
        rfl
      go_frame
      refine wpFlow_read ?_ rfl (fun w' hS => ?_) ?_
      rotate_left
      · go_simp
        rfl
      go_frame
      refine wpFlow_read ?_ rfl (fun w' hS => ?_) ?_
      rotate_left
      · go_simp
        rfl
      go_frame
      refine wpFlow_read ?_ rfl (fun w' hS => ?_) ?_
      rotate_left
      · have d2' := (hS.cell (p := ⟨g, off + k * 2, none⟩) hg5).trans d2
        go_simp
        rfl
      go_frame
      refine wpFlow_read ?_ rfl (fun w' hS => ?_) ?_
      rotate_left
      · have sc := ((HR2.out.below hS (Nat.le_of_lt hgp)).run_string (P := Try.prog) 26 5 9 c2 Try.underlying26 Try.underlying5 Try.underlying9)
        rw [← HS2.out] at sc
        go_simp
        rfl
      go_frame
      refine wpFlow_nil fun w6 hS => ?_
      have HB6 := hide (HB5.out.trans (Below.mono hS hs5))
      clear hS d1 d2 k2 hlt'
      go_wp2_with fail
      go_roundg (nn - (k + 1))
      case measure => omega
      case rel => exact ⟨k + 1, by omega, rfl, by go_num, HB6.out⟩
    · have hlt' : decide ((k : Int) < (nn : Int)) = false := by simp; omega
      go_wp2_with fail
      exact H2.out _ _ ⟨rfl, rfl, trivial⟩ (HB0.out.trans (HB5.out.mono hs2))
set_option linter.unusedVariables false in
set_option maxRecDepth 1000000 in
set_option maxHeartbeats 16000000 in
theorem pm_t4 {w w2 : World} {Q : Exit → Act → World → Prop} {a : Act} (hF : Fr a []) (HB : Below w.heap.size w w2)
    (h2 : ∀ a' w', Fr a' [(4, .bool true)] → Below w.heap.size w w' → Q .ret a' w') :
    pmT4.wp Try.prog Q a w2 := by
  conv => arg 2; whnf
  obtain ⟨f, rfl, _, hfr⟩ := hF.open
  clear hF hfr
  have H2 := hide h2
  have HB0 := hide HB
  have hs2 := HB.size
  clear h2 HB
  go_wp2_with fail
  with_reducible refine (awake_any _).mono ?_
  rintro e w3 ⟨rfl, hb3⟩
  have HB3 := hide (HB0.out.trans (hb3.mono hs2))
  clear hb3
  go_wp2_with fail
  exact H2.out _ _ ⟨rfl, rfl, rfl, trivial⟩ HB3.out
end Go.Proofs.Ytpoilndlfbmhgaa
