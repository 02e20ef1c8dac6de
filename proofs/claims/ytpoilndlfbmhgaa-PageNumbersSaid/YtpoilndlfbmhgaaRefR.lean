/-
  The walk of chanceryref07.Right: it is Pag.rightB. Conditions: the cells read as a list.
-/
import Derived.Test.YtpoilndlfbmhgaaRefQ
namespace Go.Proofs.Ytpoilndlfbmhgaa
open Go.RowKit

set_option linter.unusedVariables false in
set_option maxRecDepth 8000 in
set_option maxHeartbeats 1600000 in
theorem rRight_any (kd : UInt8) (nx : Int) (A : Option Addr) (n c : Nat) (cs : List Pag.Ce) (w : World) (hl : CeRd w w.heap.size A n cs) (hn : n ≤ 4000000000000) :
    Calls Try.prog 38 #[.agg #[.int .u8 (kd.toNat : Int), .int .i64 nx, .slice A n c]] w fun e w' => e = .returned (.bool (Pag.rightB ⟨kd, nx, cs⟩)) ∧ Below w.heap.size w w' := by
  have HL := hide hl
  have HN := hide hl.1
  obtain ⟨w1, hw1⟩ : ∃ w1, w1 = w.alloc (.cells #[.int .u8 (kd.toNat : Int), .int .i64 nx, .slice A n c] 25) := ⟨_, rfl⟩
  have HK : Hid (Blk w1 w.heap.size 25 #[.int .u8 (kd.toNat : Int), .int .i64 nx, .slice A n c]) := by rw [hw1]; exact Blk.new _ _ _
  have HB : Hid (Below w.heap.size w w1) := by rw [hw1]; exact (Below.refl _ _).alloc (Nat.le_refl _) _
  have hs1 : w.heap.size < w1.heap.size := by rw [hw1]; simp
  have k0 := HK.out.cell 0
  have k1 := HK.out.cell 1
  have k2 := HK.out.cell 2
  simp at k0 k1 k2
  clear hl
  by_cases h0 : kd = 0
  · have hP : Pag.rightB ⟨kd, nx, cs⟩ = (decide (nx = 0) && decide (n = 0)) := by
      unfold Pag.rightB
      simp only
      rw [if_pos h0, HN.out]
      cases cs <;> simp
    have HP := hide hP
    have t0 : ((kd.toNat : Int) == 0) = true := by rw [h0]; rfl
    clear hP h0
    by_cases hx : nx = 0
    · subst hx
      by_cases hz : n = 0
      · subst hz
        go_enter Try.func38, Try.ntmps38
        go_upto_region 1 with fail
        rw [← hw1]
        clear hw1
        go_wp2_with fail
        go_ret
        exact ⟨congrArg (fun b => Ending.returned (.bool b)) (by rw [HP.out]; rfl), HB.out⟩
      · have tz : ((n : Int) == 0) = false := by simp; omega
        have HZ := hide hz
        clear hz
        go_enter Try.func38, Try.ntmps38
        go_upto_region 1 with fail
        rw [← hw1]
        clear hw1
        go_wp2_with fail
        go_ret
        exact ⟨congrArg (fun b => Ending.returned (.bool b)) (by rw [HP.out]; have := HZ.out; simp [this]), HB.out⟩
    · have tx : (nx == 0) = false := by simpa using hx
      have HX := hide hx
      clear hx
      go_enter Try.func38, Try.ntmps38
      go_upto_region 1 with fail
      rw [← hw1]
      clear hw1
      go_wp2_with fail
      go_ret
      exact ⟨congrArg (fun b => Ending.returned (.bool b)) (by rw [HP.out]; have := HX.out; simp [this]), HB.out⟩
  · have hkn : kd.toNat ≠ 0 := fun e => h0 (UInt8.toNat_inj.1 e)
    have t0 : ((kd.toNat : Int) == 0) = false := by simp; omega
    by_cases h3 : 2 < kd.toNat
    · have HP : Hid (Pag.rightB ⟨kd, nx, cs⟩ = false) := by
        show _ = _
        unfold Pag.rightB
        simp only
        rw [if_neg h0, decide_eq_false (by omega)]
        rfl
      have t3 : (2 : Int) < (kd.toNat : Int) := by omega
      clear h0 hkn h3
      go_enter Try.func38, Try.ntmps38
      go_upto_region 1 with fail
      rw [← hw1]
      clear hw1
      go_wp2_with fail
      go_ret
      exact ⟨congrArg (fun b => Ending.returned (.bool b)) HP.out.symm, HB.out⟩
    · have HP : Hid (Pag.rightB ⟨kd, nx, cs⟩ = (decide (0 ≤ nx) && decide (nx < 4096) && Pag.riseB cs)) := by
        show _ = _
        unfold Pag.rightB
        simp only
        rw [if_neg h0, decide_eq_true (p := kd.toNat ≤ 2) (by omega)]
        rfl
      have t3 : ¬ (2 : Int) < (kd.toNat : Int) := by omega
      clear h0 hkn h3
      by_cases hx : nx < 0
      · have HX := hide hx
        go_enter Try.func38, Try.ntmps38
        go_upto_region 1 with fail
        rw [← hw1]
        clear hw1
        go_wp2_with fail
        go_ret
        exact ⟨congrArg (fun b => Ending.returned (.bool b)) (by rw [HP.out]; have := HX.out; simp; omega), HB.out⟩
      · by_cases hy : 4096 ≤ nx
        · have HY := hide hy
          go_enter Try.func38, Try.ntmps38
          go_upto_region 1 with fail
          rw [← hw1]
          clear hw1
          go_wp2_with fail
          go_ret
          exact ⟨congrArg (fun b => Ending.returned (.bool b)) (by rw [HP.out]; have := HY.out; simp; omega), HB.out⟩
        · have HQ : Hid (Pag.rightB ⟨kd, nx, cs⟩ = Pag.riseB cs) := by
            show _ = _
            rw [HP.out, decide_eq_true (p := 0 ≤ nx) (by omega), decide_eq_true (p := nx < 4096) (by omega)]
            rfl
          go_enter Try.func38, Try.ntmps38
          go_upto_region 1 with fail
          rw [← hw1]
          clear hw1
          go_wp2_with fail
          go_loopg [3] n (fun gg i wr => ∃ k : Nat, k ≤ n ∧ gg = n - k ∧ i = .int .i64 (k : Nat) ∧ Hid (Pag.riseB (cs.take k) = true) ∧ Below w1.heap.size w1 wr)
          case atStart => exact ⟨0, Nat.zero_le _, rfl, rfl, rfl, Below.refl _ _⟩
          case round =>
            obtain ⟨k, hk, rfl, rfl, HRi, hbel⟩ := hrel
            obtain ⟨w3, hw3⟩ : ∃ w3, w3 = wr := ⟨_, rfl⟩
            subst hw3
            have HB3 := hide hbel
            have HBw := hide (HB.out.trans (hbel.mono (Nat.le_of_lt hs1)))
            have hsz := hbel.size
            have HK3 := hide (HK.out.below hbel hs1)
            clear hbel k0 k1 k2
            have y2 := HK3.out.cell 2
            simp at y2
            by_cases hlt : k < n
            · obtain ⟨g, off, f, Ak, ck, Av, cv, rfl, hg, hf, d0, d1, hrk, h1, h2, h3, hrv, h4, h5, h6⟩ := (HL.out.below HBw.out (Nat.le_refl _)).at hlt
              have HF := hide hf
              have HRk := hide hrk
              have hlti : (k : Int) < (n : Int) := by omega
              clear hf hrk hrv
              have HM : Hid (∀ m, Calls Try.prog 51 #[.slice Ak f.1.length ck, .slice Av f.2.length cv] (w3.drewN m) fun e w' => e = .returned (.bool (mayN f.1.length f.2.length)) ∧ ∃ m', w' = w3.drewN m') := fun m => (rMay_any Ak Av f.1.length ck f.2.length cv _).mono fun e w' h => ⟨h.1, m, h.2.symm⟩
              cases hmay : mayN f.1.length f.2.length with
              | false =>
                rw [hmay] at HM
                have HS := hide (Pag.rise_stop HF.out (.inl (show Pag.mayB f.1 f.2 = false from hmay)))
                clear hmay
                go_wp2_with fail
                go_quiet (first | (go_at_call 51; exact HM.out _))
                go_wp2_with fail
                go_ret
                exact ⟨congrArg (fun b => Ending.returned (.bool b)) (by rw [HQ.out, HS.out]), below_drewN' HBw.out _⟩
              | true =>
                rw [hmay] at HM
                have HMay := hide (show Pag.mayB f.1 f.2 = true from hmay)
                clear hmay
                rcases Nat.eq_zero_or_pos k with hk0 | hk0
                · subst hk0
                  rw [Nat.zero_mul, Nat.add_zero] at d0 d1
                  have HRn := hide (Pag.rise_next HRi.out HF.out HMay.out (fun d h => absurd h (by omega)))
                  go_wp2_with fail
                  go_quiet (first | (go_at_call 51; exact HM.out _))
                  go_wp2_with fail
                  go_quiet (fail)
                  go_wp2_with fail
                  go_roundg (n - (0 + 1))
                  case measure => omega
                  case rel => exact ⟨0 + 1, by omega, rfl, by go_num, HRn.out, by first | exact below_drewN' HB3.out _ | exact below_drewN' (below_drewN' HB3.out _) _⟩
                · obtain ⟨m, hm⟩ : ∃ m, m = k - 1 := ⟨_, rfl⟩
                  obtain ⟨g', off', d, Ad, cd, Avd, cvd, e', hg', hd, dd0, dd1, hrd, j1, j2, j3, _⟩ := (HL.out.below HBw.out (Nat.le_refl _)).at (show m < n by omega)
                  injection e' with e'
                  injection e' with e1 e2
                  subst e1 e2
                  have HD := hide hd
                  have HRd := hide hrd
                  obtain ⟨z, hz⟩ : ∃ z, z = cmpB d.1 f.1 := ⟨_, rfl⟩
                  have HZ := hide hz
                  have hzr : z = -1 ∨ z = 0 ∨ z = 1 := by rw [hz]; exact cmpB_range _ _
                  have HC : Hid (∀ q0 q, Calls Try.prog 41 #[.slice Ad d.1.length cd, .slice Ak f.1.length ck] (w3.drewN (q0 + q)) fun e w' => e = .returned (.int .i64 z) ∧ ∃ m', w' = w3.drewN (q0 + m')) := fun q0 q => (rCmp_any Ad Ak d.1.length cd f.1.length ck d.1 f.1 (w3.drewN (q0 + q)) _ _ (HRd.out.keep fun _ _ => rfl) (HRk.out.keep fun _ _ => rfl) (by unfold maxLen; omega)).mono fun e w' h => ⟨by rw [h.1, HZ.out], by obtain ⟨m', h'⟩ := h.2; rw [h']; exact ⟨q + m', by rw [World.drewN_drewN, Nat.add_assoc]⟩⟩
                  clear hd hrd hz
                  have v0 : (0 : Int) < (k : Int) := by omega
                  have v1 : IntKind.i64.wrap ((k : Int) - 1) = (m : Int) := (IntWalk.i64_in _ (by omega)).trans (by omega)
                  have v3 : (m : Int) < (n : Int) := by omega
                  have HM1 := hide hm
                  clear hm
                  by_cases hc : z < 0
                  · have hcn : (z != -1) = false := by
                      rcases hzr with rfl | rfl | rfl <;> first | rfl | omega
                    have HRn := hide (Pag.rise_next HRi.out HF.out HMay.out (fun d' _ hd' => by
                      rw [← HM1.out, HD.out] at hd'
                      injection hd' with hd'
                      rw [← hd', ← HZ.out]
                      exact hc))
                    clear hzr hc
                    go_wp2_with fail
                    go_quiet (first | (go_at_call 51; exact HM.out _))
                    go_wp2_with fail
                    go_quiet (first | (go_at_call 41; exact HC.out _ _))
                    go_wp2_with fail
                    go_roundg (n - (k + 1))
                    case measure => omega
                    case rel => exact ⟨k + 1, by omega, rfl, by go_num, HRn.out, by first | exact below_drewN' HB3.out _ | exact below_drewN' (below_drewN' HB3.out _) _⟩
                  · have hcn : (z != -1) = true := by
                      rcases hzr with rfl | rfl | rfl <;> first | rfl | omega
                    have HS := hide (Pag.rise_stop HF.out (.inr ⟨d, by omega, by rw [← HM1.out]; exact HD.out, by rw [← HZ.out]; omega⟩))
                    clear hzr hc
                    go_wp2_with fail
                    go_quiet (first | (go_at_call 51; exact HM.out _))
                    go_wp2_with fail
                    go_quiet (first | (go_at_call 41; exact HC.out _ _))
                    go_wp2_with fail
                    go_ret
                    exact ⟨congrArg (fun b => Ending.returned (.bool b)) (by rw [HQ.out, HS.out]), by first | exact below_drewN' HBw.out _ | exact below_drewN' (below_drewN' HBw.out _) _⟩
            · obtain rfl : k = n := by omega
              have hr := HRi.out
              rw [List.take_of_length_le (by rw [← HN.out]; exact Nat.le_refl _)] at hr
              have HR2 := hide hr
              clear hr HRi
              go_wp2_with fail
              go_ret
              exact ⟨congrArg (fun b => Ending.returned (.bool b)) (by rw [HQ.out, HR2.out]), HBw.out⟩
end Go.Proofs.Ytpoilndlfbmhgaa
