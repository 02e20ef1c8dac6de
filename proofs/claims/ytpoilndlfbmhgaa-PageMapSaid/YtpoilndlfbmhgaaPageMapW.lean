/-
  The walk of chancerylaw07.PageMap: it returns true. Conditions: the script reads as a list of calls.
-/
import Derived.Test.YtpoilndlfbmhgaaMapT
namespace Go.Proofs.Ytpoilndlfbmhgaa
open Go.RowKit

noncomputable def pm1 : Code := cR pm0
noncomputable def pm2 : Code := cR pm1
noncomputable def pm3 : Code := cR pm2
noncomputable def pm4 : Code := cR pm3
noncomputable def pm5 : Code := cR pm4
theorem pm_eq0 : Try.f5.body.getD .skip = .seq (cL pm0) (.seq (cL pm1) (.seq (cL pm2) (.seq (cL pm3) (.seq (cL pm4) (.seq (cL pm5) pm6))))) := by kernel_rfl
theorem pm_eq6 : pm6 = .seq (.seq (cL (cL pm6)) (.block 0 (.loop pmLB))) pmT := by kernel_rfl
theorem pm_eqL : pmLB = .seq (cL pmLB) (.seq (.block 1 pmX) (cR (cR pmLB))) := by kernel_rfl
theorem pm_eqX : pmX = .seq (cL pmX) (.seq (cL (cR pmX)) (.seq (cL pmX1) (.seq (cL (cR pmX1)) (.seq (cL pmX3) (.seq (cL pmX4) (.seq (cL pmX5) (.seq (cL pmX6) (.seq (cL pmX7) (.seq (cL pmX8) (.seq (cL pmX9) (.seq (cL pmX10) (.seq (cL pmX11) (cR pmX11))))))))))))) := by kernel_rfl
theorem pm_eqT : pmT = .seq (cL pmT) (.seq (cL pmT1) (.seq (cL pmT2) (.seq (cL pmT3) pmT4))) := by kernel_rfl
set_option linter.unusedVariables false in
set_option maxRecDepth 1000000 in
set_option maxHeartbeats 16000000 in
theorem pm_h {A0 : Option Addr} {n c : Nat} {inner : Bool} {w : World} {Q : Exit → Act → World → Prop} {a : Act} (Y : Code) (hF : Fr a [(0, .slice A0 n c), (1, .bool inner)])
    (h : ∀ a' w' kd Ab cb bs, ¬ kd = 0 → Fr a' [(0, .slice A0 n c), (5, .int .u8 (kd.toNat : Int)), (6, .slice Ab 4080 cb), (8, .slice none 0 0), (9, .slice none 0 0)] → MI w kd (.slice Ab 4080 cb) none none 0 0 0 w' bs ⟨kd, 7, []⟩ [] [] → Y.wp Try.prog Q a' w') :
    (Code.seq (cL pm0) (Code.seq (cL pm1) (Code.seq (cL pm2) (Code.seq (cL pm3) (Code.seq (cL pm4) (Code.seq (cL pm5) Y)))))).wp Try.prog Q a w := by
  conv => arg 2; arg 1; whnf
  conv => arg 2; arg 2; arg 1; whnf
  conv => arg 2; arg 2; arg 2; arg 1; whnf
  conv => arg 2; arg 2; arg 2; arg 2; arg 1; whnf
  conv => arg 2; arg 2; arg 2; arg 2; arg 2; arg 1; whnf
  conv => arg 2; arg 2; arg 2; arg 2; arg 2; arg 2; arg 1; whnf
  obtain ⟨f, rfl, ⟨s0, s1, _⟩, hfr⟩ := hF.open
  rw [hfr] at s0 s1
  rw [s0, s1]
  clear hF hfr s0 s1
  have H := hide h
  clear h
  have key : ∀ kd : UInt8, (kd = 1 ∨ kd = 2) → ∃ b, Pag.pack ⟨kd, 7, []⟩ = (0, b) ∧ b.length = 4080 ∧ Pag.unpB b = some ⟨kd, 7, []⟩ := fun kd hk => by
    obtain ⟨b, h1, h2⟩ := Pag.empty_pack kd hk
    exact ⟨b, h1, Pag.pack_len h1, h2⟩
  have HKe := hide key
  clear key
  cases inner with
  | false =>
    obtain ⟨b0, hp0, hl0, hu0⟩ := HKe.out 1 (.inl rfl)
    have HU := hide hu0
    have HL0 := hide hl0
    clear hu0 hl0
    go_wp2_with fail
    have cp := pack_any 1 7 none 0 0 [] w (CeRd.nil _ _ _) (by omega)
    rw [show (((1 : UInt8).toNat : Nat) : Int) = 1 from rfl, hp0] at cp
    with_reducible refine cp.mono ?_
    clear cp hp0
    rintro e w1 ⟨v1, rfl, ho1, hb1⟩
    simp only at ho1 ⊢
    rw [HL0.out] at ho1
    obtain ⟨Ab, cb, rfl, _⟩ := own_form ho1
    have HI : Hid (MI w 1 (.slice Ab 4080 cb) none none 0 0 0 w1 b0 ⟨1, 7, []⟩ [] []) := ⟨show _ from by unfold Ow; rw [HL0.out]; exact ho1, HU.out, rfl, rfl, Pag.Mp.nil, TR.nil _ _ _, TR.nil _ _ _, (fun g e => by cases e), hb1⟩
    clear ho1 hb1
    go_wp2_with fail
    exact H.out _ _ 1 _ _ _ (by decide) ⟨rfl, rfl, rfl, rfl, rfl, rfl, rfl, trivial⟩ HI.out
  | true =>
    obtain ⟨b0, hp0, hl0, hu0⟩ := HKe.out 2 (.inr rfl)
    have HU := hide hu0
    have HL0 := hide hl0
    clear hu0 hl0
    go_wp2_with fail
    have cp := pack_any 2 7 none 0 0 [] w (CeRd.nil _ _ _) (by omega)
    rw [show (((2 : UInt8).toNat : Nat) : Int) = 2 from rfl, hp0] at cp
    with_reducible refine cp.mono ?_
    clear cp hp0
    rintro e w1 ⟨v1, rfl, ho1, hb1⟩
    simp only at ho1 ⊢
    rw [HL0.out] at ho1
    obtain ⟨Ab, cb, rfl, _⟩ := own_form ho1
    have HI : Hid (MI w 2 (.slice Ab 4080 cb) none none 0 0 0 w1 b0 ⟨2, 7, []⟩ [] []) := ⟨show _ from by unfold Ow; rw [HL0.out]; exact ho1, HU.out, rfl, rfl, Pag.Mp.nil, TR.nil _ _ _, TR.nil _ _ _, (fun g e => by cases e), hb1⟩
    clear ho1 hb1
    go_wp2_with fail
    exact H.out _ _ 2 _ _ _ (by decide) ⟨rfl, rfl, rfl, rfl, rfl, rfl, rfl, trivial⟩ HI.out
set_option linter.unusedVariables false in
set_option maxRecDepth 1000000 in
set_option maxHeartbeats 16000000 in
theorem pm_r0 {A0 : Option Addr} {n c : Nat} {kd : UInt8} {b : Value} {A B : Option Addr} {nn cA cB : Nat} {w2 : World} {Q : Exit → Act → World → Prop} {a : Act} (hF : Fr a [(0, .slice A0 n c), (5, .int .u8 (kd.toNat : Int)), (6, b), (8, .slice A nn cA), (9, .slice B nn cB)])
    (h : ∀ a', Fr a' (live A0 n c kd b A B nn cA cB 0) → Q .normal a' w2) : (cL (cL pm6)).wp Try.prog Q a w2 := by
  conv => arg 2; whnf
  obtain ⟨f, rfl, ⟨s0, s5, s6, s8, s9, _⟩, hfr⟩ := hF.open
  rw [hfr] at s0 s5 s6 s8 s9
  rw [s0, s5, s6, s8, s9]
  clear hF hfr s0 s5 s6 s8 s9
  have H := hide h
  clear h
  go_wp2_with fail
  exact H.out _ ⟨rfl, rfl, rfl, rfl, rfl, rfl, rfl, rfl, trivial⟩
set_option linter.unusedVariables false in
set_option maxRecDepth 1000000 in
set_option maxHeartbeats 16000000 in
theorem pm_r9 {A0 : Option Addr} {n c : Nat} {kd : UInt8} {b : Value} {A B : Option Addr} {nn cA cB j : Nat} {w2 : World} {Q : Exit → Act → World → Prop} {a : Act} (hF : Fr a (live A0 n c kd b A B nn cA cB j)) (hj : j ≤ 60)
    (h1 : ∀ a', j < n → j < 60 → Fr a' (live A0 n c kd b A B nn cA cB j) → Q .normal a' w2)
    (h2 : ∀ a', Fr a' (live A0 n c kd b A B nn cA cB j) → Q (.exit 0) a' w2) : (cL pmLB).wp Try.prog Q a w2 := by
  conv => arg 2; whnf
  obtain ⟨f, rfl, ⟨s0, s5, s6, s8, s9, s10, _⟩, hfr⟩ := hF.open
  rw [hfr] at s0 s5 s6 s8 s9 s10
  rw [s0, s5, s6, s8, s9, s10]
  clear hF hfr s0 s5 s6 s8 s9 s10
  have H1 := hide h1
  have H2 := hide h2
  clear h1 h2
  rcases Nat.lt_or_ge j n with h1 | h1
  · have h1' : decide ((j : Int) < (n : Int)) = true := by simp; omega
    have h1i : (j : Int) < (n : Int) := by omega
    rcases Nat.lt_or_ge j 60 with h2 | h2
    · have h2' : decide ((j : Int) < 60) = true := by simp; omega
      have h2i : (j : Int) < 60 := by omega
      have HQ := hide (fun a' => H1.out a' h1 h2)
      clear h1 h2
      go_wp2_with fail
      exact HQ.out _ ⟨rfl, rfl, rfl, rfl, rfl, rfl, rfl, rfl, trivial⟩
    · have h2' : decide ((j : Int) < 60) = false := by simp; omega
      have h2i : ¬ (j : Int) < 60 := by omega
      go_wp2_with fail
      exact H2.out _ ⟨rfl, rfl, rfl, rfl, rfl, rfl, rfl, rfl, trivial⟩
  · have h1' : decide ((j : Int) < (n : Int)) = false := by simp; omega
    have h1i : ¬ (j : Int) < (n : Int) := by omega
    go_wp2_with fail
    exact H2.out _ ⟨rfl, rfl, rfl, rfl, rfl, rfl, rfl, rfl, trivial⟩
set_option linter.unusedVariables false in
set_option maxRecDepth 1000000 in
set_option maxHeartbeats 16000000 in
theorem pm_r10 {A0 : Option Addr} {n c : Nat} {kd : UInt8} {b : Value} {A B : Option Addr} {nn cA cB j : Nat} {w2 : World} {Q : Exit → Act → World → Prop} {a : Act} (hF : Fr a (live A0 n c kd b A B nn cA cB j)) (hj : j < 60)
    (h : ∀ a', Fr a' (live A0 n c kd b A B nn cA cB (j + 1)) → Q .normal a' w2) : (cR (cR pmLB)).wp Try.prog Q a w2 := by
  conv => arg 2; whnf
  obtain ⟨f, rfl, ⟨s0, s5, s6, s8, s9, s10, _⟩, hfr⟩ := hF.open
  rw [hfr] at s0 s5 s6 s8 s9 s10
  rw [s0, s5, s6, s8, s9, s10]
  clear hF hfr s0 s5 s6 s8 s9 s10
  have H := hide h
  clear h
  obtain ⟨j', hj'⟩ : ∃ j', j' = j + 1 := ⟨_, rfl⟩
  rw [← hj'] at H
  have s1 : IntKind.i64.wrap ((j : Int) + 1) = (j' : Int) := by rw [IntWalk.i64_in _ (by omega)]; omega
  clear hj'
  go_wp2_with fail
  exact H.out _ ⟨rfl, rfl, rfl, rfl, rfl, rfl, rfl, rfl, trivial⟩
theorem MI.form {w : World} {kd : UInt8} {b : Value} {A B : Option Addr} {nn cA cB : Nat} {wr : World} {bs : List UInt8} {p : Pag.Pg} {ks vs : Pag.Txs} (h : MI w kd b A B nn cA cB wr bs p ks vs) : ∃ Ab cb, b = .slice Ab 4080 cb := by
  obtain ⟨Ab, cb, e, _⟩ := h.own.form
  rw [unp_len h.unp] at e
  exact ⟨Ab, cb, e⟩
theorem pm_x {w : World} {A0 : Option Addr} {n c : Nat} {os : List Op1} {kd : UInt8} {b : Value} {A B : Option Addr} {nn cA cB j : Nat} {w2 : World} {bs : List UInt8} {p : Pag.Pg} {ks vs : Pag.Txs} {Q : Exit → Act → World → Prop} {a : Act} (hF : Fr a (live A0 n c kd b A B nn cA cB j)) (HI : MI w kd b A B nn cA cB w2 bs p ks vs) (hl : OpRd w2 w.heap.size A0 n os) (hj : j < n) (hnn : nn ≤ j) (hj60 : j < 60) (hkd : ¬ kd = 0)
    (h : ∀ a' w' b' bs' p' A' B' nn' cA' cB' ks' vs', nn' ≤ j + 1 → Fr a' (live A0 n c kd b' A' B' nn' cA' cB' j) → MI w kd b' A' B' nn' cA' cB' w' bs' p' ks' vs' → Q (.exit 1) a' w' ∧ Q .normal a' w') : pmX.wp Try.prog Q a w2 := by
  obtain ⟨Ab, cb, rfl⟩ := HI.form
  rw [pm_eqX]
  refine pm_b (os := os) _ hF HI hl hj (fun a' w' hF' HI' => (h _ _ _ _ _ _ _ _ _ _ _ _ (by omega) hF' HI').1) ?_
  intro a' w' go kv Ak Av nk ck nv cv key val hF' HI' HO' hk
  refine pm_c (os := os) _ hF' HI' HO' (by omega) ?_
  clear hF HI hl hF' HI' HO' a a' w'
  intro a w3 z hF HI HO hz
  refine wp_seq (pm_d (os := os) hF HI HO (by omega) hk hz (fun a' w' b' bs' p' A' B' nn' cA' cB' ks' vs' hn' hF' HI' => (h _ _ _ _ _ _ _ _ _ _ _ _ (by omega) hF' HI').1) ?_)
  intro a' hF'
  refine pm_e1 (os := os) _ hF' HI HO (by omega) hk hz ?_
  clear hF HI HO hF' a a'
  intro a w4 R N hF HI HO hN
  refine pm_e2 (os := os) _ hF HI HO (by omega) hkd hk hz hN (fun a' w' hF' HI' => (h _ _ _ _ _ _ _ _ _ _ _ _ (by omega) hF' HI').1) ?_
  clear hF HI HO hN a
  intro a w5 v x p' hF HI HO hw hu hpk hpn hpm
  refine pm_f (os := os) _ hF HI HO (by omega) hz hw hu hpk hpn hpm ?_
  clear hF HI HO hw hu hpk hpn hpm a
  intro a w6 A' B' nn' cA' cB' ks' vs' hn hF HI HO
  exact pm_g (os := os) (Ab := Ab) (cb := cb) hF HI HO (by omega) hk (fun a' w' A2 B2 cA2 cB2 hF' HI' => (h _ _ _ _ _ _ _ _ _ _ _ _ (by omega) hF' HI').2)
theorem pm_loop {w : World} {A0 : Option Addr} {n c : Nat} {os : List Op1} {kd : UInt8} {b : Value} {A B : Option Addr} {nn cA cB : Nat} {w2 : World} {bs : List UInt8} {p : Pag.Pg} {ks vs : Pag.Txs} {Q : Exit → Act → World → Prop} {a : Act} (hF : Fr a (live A0 n c kd b A B nn cA cB 0)) (HI : MI w kd b A B nn cA cB w2 bs p ks vs) (hl : OpRd w w.heap.size A0 n os) (hnn : nn ≤ 0) (hkd : ¬ kd = 0)
    (h : ∀ a' w' j' b' bs' p' A' B' nn' cA' cB' ks' vs', nn' ≤ 60 → Fr a' (live A0 n c kd b' A' B' nn' cA' cB' j') → MI w kd b' A' B' nn' cA' cB' w' bs' p' ks' vs' → Q .normal a' w') : (Code.block 0 (.loop pmLB)).wp Try.prog Q a w2 := by
  refine wp_block (wp_loop_ghost (fun g a w' => ∃ j b A B nn cA cB bs p ks vs, j ≤ 60 ∧ nn ≤ j ∧ g = 60 - j ∧ Fr a (live A0 n c kd b A B nn cA cB j) ∧ MI w kd b A B nn cA cB w' bs p ks vs) 60 ⟨0, b, A, B, nn, cA, cB, bs, p, ks, vs, by omega, hnn, rfl, hF, HI⟩ ?_)
  clear hF HI
  rintro g a w3 ⟨j, b, A, B, nn, cA, cB, bs, p, ks, vs, hj, hn, rfl, hF, HI⟩
  rw [pm_eqL]
  refine wp_seq (pm_r9 hF hj ?_ ?_)
  · intro a' hjn hj60 hF'
    refine wp_seq (wp_block (pm_x (os := os) hF' HI (hl.keep (fun p hp => HI.bel.cell hp)) hjn hn hj60 hkd ?_))
    intro a' w' b' bs' p' A' B' nn' cA' cB' ks' vs' hn' hF' HI'
    have := pm_r10 (w2 := w') (Q := Exit.then (fun a' w' => ∃ n', n' < 60 - j ∧ ∃ j b A B nn cA cB bs p ks vs, j ≤ 60 ∧ nn ≤ j ∧ n' = 60 - j ∧ Fr a' (live A0 n c kd b A B nn cA cB j) ∧ MI w kd b A B nn cA cB w' bs p ks vs) (Exit.inBlock 0 Q)) hF' hj60 (fun a2 hF2 => ⟨60 - (j + 1), by omega, j + 1, b', A', B', nn', cA', cB', bs', p', ks', vs', by omega, hn', rfl, hF2, HI'⟩)
    exact ⟨this, this⟩
  · intro a' hF'
    exact h _ _ _ _ _ _ _ _ _ _ _ _ _ (by omega) hF' HI
set_option linter.unusedVariables false in
set_option maxRecDepth 1000000 in
set_option maxHeartbeats 16000000 in
theorem pageMap_any (A0 : Option Addr) (n c : Nat) (os : List Op1) (inner : Bool) (w : World) (hl : OpRd w w.heap.size A0 n os) :
    Calls Try.prog 5 #[.slice A0 n c, .bool inner] w fun e w' => e = .returned (.bool true) ∧ Below w.heap.size w w' := by
  refine calls_of_wp Try.func5 (c := Try.f5.body.getD .skip) (by kernel_rfl) ?_
  rw [pm_eq0]
  refine pm_h (inner := inner) (A0 := A0) (n := n) (c := c) _ ?_ ?_
  · rw [Try.ntmps5]
    exact ⟨by simp, rfl, by simp, by simp, trivial⟩
  intro a w1 kd Ab cb bs hkd hF HI
  rw [pm_eq6]
  refine wp_seq (wp_seq (pm_r0 hF fun a' hF' => ?_))
  refine pm_loop (os := os) hF' HI hl (Nat.le_refl _) hkd ?_
  clear hF hF' HI a a'
  intro a w2 j b bs p A B nn cA cB ks vs hnn hF HI
  obtain ⟨Ab, cb, rfl⟩ := HI.form
  rw [pm_eqT]
  obtain ⟨h1, h2, h3⟩ := hF
  refine pm_t1 _ (⟨h1, h2, h3.2.1, h3.2.2.1, h3.2.2.2.1, h3.2.2.2.2.1, trivial⟩) HI ?_
  intro a w3 gp Ap cp hF HI HP
  refine pm_t2 _ hF HI HP hnn ?_
  intro a w4 hF HB HP
  refine pm_t3 _ hF HB HP hnn (Pag.right_rise (Pag.unpB_right HI.unp).1) ?_
  intro a w5 hF HB
  refine pm_t4 hF HB ?_
  intro a w6 hF HB
  obtain ⟨f, rfl, ⟨s4, _⟩, hfr⟩ := hF.open
  rw [hfr] at s4
  rw [s4]
  go_ret
  exact ⟨rfl, HB⟩
end Go.Proofs.Ytpoilndlfbmhgaa
