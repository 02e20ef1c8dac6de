/-
  The walks of page.mayBe, size, taken, right and of chanceryref07's May, Taken, Right. Conditions: the cells read as lists.
-/
import Derived.Test.YtpoilndlfbmhgaaCells
import Derived.BigQuiet
import Derived.Deep.LoopGhost
import Derived.Deep.DeepCutAuto
namespace Go.Proofs.Ytpoilndlfbmhgaa
open Go.RowKit

def mayN (n m : Nat) : Bool := decide (1 ≤ n) && decide (n ≤ 320) && decide (m ≤ 576)
theorem mayBe_any (A A' : Option Addr) (n c n' c' : Nat) (w : World) : Calls Try.prog 48 #[.slice A n c, .slice A' n' c'] w fun e w' => e = .returned (.bool (mayN n n')) ∧ w = w' := by
  obtain ⟨r, hr⟩ : ∃ r, r = mayN n n' := ⟨_, rfl⟩
  have HR := hide hr
  rw [← hr]
  clear hr
  by_cases h1 : 1 ≤ n
  · have h1i : (1 : Int) ≤ (n : Int) := by omega
    by_cases h2 : n ≤ 320
    · have h2i : (n : Int) ≤ 320 := by omega
      by_cases h3 : n' ≤ 576
      · have h3i : (n' : Int) ≤ 576 := by omega
        go_enter Try.func48, Try.ntmps48
        go_wp2_with fail
        go_ret
        exact ⟨congrArg (fun b => Ending.returned (.bool b)) (by rw [HR.out]; unfold mayN; simp [h1, h2, h3]), rfl⟩
      · have h3i : ¬ (n' : Int) ≤ 576 := by omega
        go_enter Try.func48, Try.ntmps48
        go_wp2_with fail
        go_ret
        exact ⟨congrArg (fun b => Ending.returned (.bool b)) (by rw [HR.out]; unfold mayN; simp [h1, h2, h3]), rfl⟩
    · have h2i : ¬ (n : Int) ≤ 320 := by omega
      go_enter Try.func48, Try.ntmps48
      go_wp2_with fail
      go_ret
      exact ⟨congrArg (fun b => Ending.returned (.bool b)) (by rw [HR.out]; unfold mayN; simp [h1, h2]), rfl⟩
  · have h1i : ¬ (1 : Int) ≤ (n : Int) := by omega
    go_enter Try.func48, Try.ntmps48
    go_wp2_with fail
    go_ret
    exact ⟨congrArg (fun b => Ending.returned (.bool b)) (by rw [HR.out]; unfold mayN; simp [h1]), rfl⟩
theorem size_any (A A' : Option Addr) (n c n' c' : Nat) (w : World) (h : n ≤ 140737488355328) (h' : n' ≤ 140737488355328) : Calls Try.prog 37 #[.agg #[.slice A n c, .slice A' n' c']] w fun e w' => e = .returned (.int .i64 ((6 + n + n' : Nat) : Int)) ∧ Below w.heap.size w w' := by
  go_enter Try.func37, Try.ntmps37
  go_wp2_with fail
  go_ret
  exact ⟨ret_int (by omega), (Below.refl _ _).alloc (Nat.le_refl _) _⟩
set_option maxHeartbeats 800000 in
theorem taken_any (A : Option Addr) (n c : Nat) (cs : List Pag.Ce) (w : World) (hl : CeRd w w.heap.size A n cs) (hm : ∀ c ∈ cs, Pag.mayB c.1 c.2 = true) (hn : n ≤ 4000000000000) :
    Calls Try.prog 34 #[.slice A n c] w fun e w' => e = .returned (.int .i64 ((Pag.taken cs : Nat) : Int)) ∧ Below w.heap.size w w' := by
  have HL := hide hl
  have HN := hide hl.1
  have htl := Pag.taken_le cs hm
  have hcl := hl.1
  have HM := hide hm
  have htk : ∀ k, k ≤ n → Pag.taken (cs.take k) ≤ 902 * k := fun k hk => by
    have := Pag.taken_le (cs.take k) fun c hc => hm c (List.mem_of_mem_take hc)
    have h2 := List.length_take_le k cs
    omega
  have HT := hide htk
  clear hl htl hcl hm htk
  go_enter Try.func34, Try.ntmps34
  go_wp2_with fail
  go_loopg [3, 8] n (fun gg s i wr => ∃ k t : Nat, k ≤ n ∧ gg = n - k ∧ i = .int .i64 (k : Nat) ∧ s = .int .i64 (t : Nat) ∧ Hid (t = Pag.taken (cs.take k)) ∧ t ≤ 902 * k ∧ Below w.heap.size w wr)
  case atStart => exact ⟨0, 0, Nat.zero_le _, rfl, rfl, rfl, rfl, by omega, Below.refl _ _⟩
  case round =>
    obtain ⟨k, t, hk, rfl, rfl, rfl, HTk, htb, hbel⟩ := hrel
    obtain ⟨w3, hw3⟩ : ∃ w3, w3 = wr := ⟨_, rfl⟩
    subst hw3
    have HB := hide hbel
    have hsz := hbel.size
    clear hbel
    by_cases hlt : k < n
    · obtain ⟨g, off, f, Ak, ck, Av, cv, rfl, hg, hf, d0, d1, _, h1, _, _, _, h2, _, _⟩ := (HL.out.below HB.out (Nat.le_refl _)).at hlt
      have HE := hide (Pag.taken_take hf)
      have htn := HT.out (k + 1) (by omega)
      rw [HE.out] at htn
      have hsf : t + Pag.sizeC f ≤ 902 * (k + 1) := by rw [HTk.out]; exact htn
      have hsf2 : t + (6 + f.1.length + f.2.length) ≤ 902 * (k + 1) := hsf
      have hgl : g < w3.heap.size := by omega
      clear hf htn hsf
      go_wp2_with fail
      with_reducible refine (size_any Ak Av f.1.length ck f.2.length cv _ h1 h2).mono ?_
      rintro e w4 ⟨rfl, hb4⟩
      have HB4 := hide ((HB.out.alloc hsz (.cells #[.slice Ak f.1.length ck, .slice Av f.2.length cv] 41)).trans (hb4.mono (by simp; omega)))
      obtain ⟨sz, hsz'⟩ : ∃ sz, sz = 6 + f.1.length + f.2.length := ⟨_, rfl⟩
      rw [← hsz'] at hsf2 ⊢
      have HSz := hide hsz'
      clear hb4 hsz' d0 d1
      go_wp2_with fail
      go_roundg (n - (k + 1))
      case measure => omega
      case rel => exact ⟨k + 1, t + sz, by omega, rfl, by go_num, by go_num, by show _ = _; rw [HE.out, HTk.out, HSz.out]; rfl, by omega, HB4.out⟩
    · obtain rfl : k = n := by omega
      have hT := HTk.out
      rw [List.take_of_length_le (by rw [← HN.out]; exact Nat.le_refl _)] at hT
      have HT2 := hide hT
      clear hT HTk
      go_wp2_with fail
      go_ret
      exact ⟨by rw [← HT2.out]; rfl, HB.out⟩

theorem below_drewN' {B : Nat} {a w : World} (h : Below B a w) (n : Nat) : Below B a (w.drewN n) := ⟨h.os, h.tape, h.output, h.size, h.block⟩
/-- The page in its box. -/
def PgB (w : World) (g : Nat) (kd : UInt8) (nx : Int) (A : Option Addr) (n c : Nat) : Prop := Blk w g 25 #[.int .u8 (kd.toNat : Int), .int .i64 nx, .slice A n c]
theorem kind_eq (k : UInt8) (m : Nat) : ((k.toNat : Int) == (m : Int)) = decide (k.toNat = m) := by
  rw [Bool.eq_iff_iff]
  simp only [beq_iff_eq, decide_eq_true_eq]
  omega
set_option linter.unusedVariables false in
set_option maxRecDepth 8000 in
set_option maxHeartbeats 1600000 in
theorem right_any (kd : UInt8) (nx : Int) (A : Option Addr) (n c : Nat) (cs : List Pag.Ce) (w : World) (hl : CeRd w w.heap.size A n cs) (hn : n ≤ 4000000000000) :
    Calls Try.prog 33 #[.agg #[.int .u8 (kd.toNat : Int), .int .i64 nx, .slice A n c]] w fun e w' => e = .returned (.bool (Pag.rightB ⟨kd, nx, cs⟩)) ∧ Below w.heap.size w w' := by
  have HL := hide hl
  have HN := hide hl.1
  obtain ⟨w1, hw1⟩ : ∃ w1, w1 = w.alloc (.cells #[.int .u8 (kd.toNat : Int), .int .i64 nx, .slice A n c] 25) := ⟨_, rfl⟩
  have HK : Hid (Blk w1 w.heap.size 25 #[.int .u8 (kd.toNat : Int), .int .i64 nx, .slice A n c]) := by rw [hw1]; exact Blk.new _ _ _
  have HB : Hid (Below w.heap.size w w1) := by rw [hw1]; exact (Below.refl _ _).alloc (Nat.le_refl _) _
  have hs1 : w.heap.size < w1.heap.size := by rw [hw1]; simp
  have k0 := HK.out.cell 0
  have k1 := HK.out.cell 1
  have k2 := HK.out.cell 2
  simp at k0 k1 k2
  clear hl
  by_cases h0 : kd = 0
  · have hP : Pag.rightB ⟨kd, nx, cs⟩ = (decide (nx = 0) && decide (n = 0)) := by
      unfold Pag.rightB
      simp only
      rw [if_pos h0, HN.out]
      cases cs <;> simp
    have HP := hide hP
    have t0 : ((kd.toNat : Int) == 0) = true := by rw [h0]; rfl
    clear hP h0
    by_cases hx : nx = 0
    · subst hx
      by_cases hz : n = 0
      · subst hz
        go_enter Try.func33, Try.ntmps33
        go_upto_region 1 with fail
        rw [← hw1]
        clear hw1
        go_wp2_with fail
        go_ret
        exact ⟨congrArg (fun b => Ending.returned (.bool b)) (by rw [HP.out]; rfl), HB.out⟩
      · have tz : ((n : Int) == 0) = false := by simp; omega
        have HZ := hide hz
        clear hz
        go_enter Try.func33, Try.ntmps33
        go_upto_region 1 with fail
        rw [← hw1]
        clear hw1
        go_wp2_with fail
        go_ret
        exact ⟨congrArg (fun b => Ending.returned (.bool b)) (by rw [HP.out]; have := HZ.out; simp [this]), HB.out⟩
    · have tx : (nx == 0) = false := by simpa using hx
      have HX := hide hx
      clear hx
      go_enter Try.func33, Try.ntmps33
      go_upto_region 1 with fail
      rw [← hw1]
      clear hw1
      go_wp2_with fail
      go_ret
      exact ⟨congrArg (fun b => Ending.returned (.bool b)) (by rw [HP.out]; have := HX.out; simp [this]), HB.out⟩
  · have hkn : kd.toNat ≠ 0 := fun e => h0 (UInt8.toNat_inj.1 e)
    have t0 : ((kd.toNat : Int) == 0) = false := by simp; omega
    by_cases h3 : 2 < kd.toNat
    · have HP : Hid (Pag.rightB ⟨kd, nx, cs⟩ = false) := by
        show _ = _
        unfold Pag.rightB
        simp only
        rw [if_neg h0, decide_eq_false (by omega)]
        rfl
      have t1 : ((kd.toNat : Int) == 1) = false := by simp; omega
      have t2 : ((kd.toNat : Int) == 2) = false := by simp; omega
      clear h0 hkn h3
      go_enter Try.func33, Try.ntmps33
      go_upto_region 1 with fail
      rw [← hw1]
      clear hw1
      go_wp2_with fail
      go_ret
      exact ⟨congrArg (fun b => Ending.returned (.bool b)) HP.out.symm, HB.out⟩
    · have HP : Hid (Pag.rightB ⟨kd, nx, cs⟩ = (decide (0 ≤ nx) && decide (nx < 4096) && Pag.riseB cs)) := by
        show _ = _
        unfold Pag.rightB
        simp only
        rw [if_neg h0, decide_eq_true (p := kd.toNat ≤ 2) (by omega)]
        rfl
      have hP2 : Pag.rightB ⟨kd, nx, cs⟩ = true ∨ Pag.rightB ⟨kd, nx, cs⟩ = false := by cases Pag.rightB ⟨kd, nx, cs⟩ <;> simp
      clear hP2
      have hk12 : kd.toNat = 1 ∨ kd.toNat = 2 := by omega
      have t12 : (((kd.toNat : Int) == 1) = true ∧ True) ∨ (((kd.toNat : Int) == 1) = false ∧ ((kd.toNat : Int) == 2) = true) := by
        rcases hk12 with h | h
        · left; exact ⟨by simp; omega, trivial⟩
        · right; exact ⟨by simp; omega, by simp; omega⟩
      clear h0 hkn h3 hk12
      rcases t12 with ⟨t1, t2⟩ | ⟨t1, t2⟩
      all_goals
        by_cases hx : nx < 0
        · have HX := hide hx
          go_enter Try.func33, Try.ntmps33
          go_upto_region 1 with fail
          rw [← hw1]
          clear hw1
          go_wp2_with fail
          go_ret
          exact ⟨congrArg (fun b => Ending.returned (.bool b)) (by rw [HP.out]; have := HX.out; simp; omega), HB.out⟩
        · by_cases hy : 4096 ≤ nx
          · have HY := hide hy
            go_enter Try.func33, Try.ntmps33
            go_upto_region 1 with fail
            rw [← hw1]
            clear hw1
            go_wp2_with fail
            go_ret
            exact ⟨congrArg (fun b => Ending.returned (.bool b)) (by rw [HP.out]; have := HY.out; simp; omega), HB.out⟩
          · have HQ : Hid (Pag.rightB ⟨kd, nx, cs⟩ = Pag.riseB cs) := by
              show _ = _
              rw [HP.out, decide_eq_true (p := 0 ≤ nx) (by omega), decide_eq_true (p := nx < 4096) (by omega)]
              rfl
            go_enter Try.func33, Try.ntmps33
            go_upto_region 1 with fail
            rw [← hw1]
            clear hw1
            go_wp2_with fail
            go_loopg [32] n (fun gg i wr => ∃ k : Nat, k ≤ n ∧ gg = n - k ∧ i = .int .i64 (k : Nat) ∧ Hid (Pag.riseB (cs.take k) = true) ∧ Below w1.heap.size w1 wr)
            case atStart => exact ⟨0, Nat.zero_le _, rfl, rfl, rfl, Below.refl _ _⟩
            case round =>
              obtain ⟨k, hk, rfl, rfl, HRi, hbel⟩ := hrel
              obtain ⟨w3, hw3⟩ : ∃ w3, w3 = wr := ⟨_, rfl⟩
              subst hw3
              have HB3 := hide hbel
              have HBw := hide (HB.out.trans (hbel.mono (Nat.le_of_lt hs1)))
              have hsz := hbel.size
              have HK3 := hide (HK.out.below hbel hs1)
              clear hbel k0 k1 k2
              by_cases hlt : k < n
              · obtain ⟨g, off, f, Ak, ck, Av, cv, rfl, hg, hf, d0, d1, hrk, h1, h2, h3, hrv, h4, h5, h6⟩ := (HL.out.below HBw.out (Nat.le_refl _)).at hlt
                have HF := hide hf
                have hgl : g < w3.heap.size := by omega
                obtain ⟨w4, hw4⟩ : ∃ w4, w4 = w3.alloc (.cells #[.slice Ak f.1.length ck, .slice Av f.2.length cv] 41) := ⟨_, rfl⟩
                have hb4 : Below w3.heap.size w3 w4 := by rw [hw4]; exact (Below.refl _ _).alloc (Nat.le_refl _) _
                have HX4 : Hid (Blk w4 w3.heap.size 41 #[.slice Ak f.1.length ck, .slice Av f.2.length cv]) := by rw [hw4]; exact Blk.new _ _ _
                have HB4 := hide (HB3.out.trans (hb4.mono hsz))
                have HBw4 := hide (HBw.out.trans (hb4.mono (by omega)))
                have HK4 := hide (HK3.out.below hb4 (by omega))
                have HRk := hide (hrk.below hb4 (by omega))
                have hz4 := hb4.size
                go_upto_region 12 with fail
                rw [← hw4]
                clear hw4 hf hrk hrv d0 d1 hb4
                have x0 := HX4.out.cell 0
                have x1 := HX4.out.cell 1
                have y2 := HK4.out.cell 2
                simp at x0 x1 y2
                have HM : Hid (∀ m, Calls Try.prog 48 #[.slice Ak f.1.length ck, .slice Av f.2.length cv] (w4.drewN m) fun e w' => e = .returned (.bool (mayN f.1.length f.2.length)) ∧ ∃ m', w' = w4.drewN m') := fun m => (mayBe_any Ak Av f.1.length ck f.2.length cv _).mono fun e w' h => ⟨h.1, m, h.2.symm⟩
                cases hmay : mayN f.1.length f.2.length with
                | false =>
                  rw [hmay] at HM
                  have HS := hide (Pag.rise_stop HF.out (.inl (show Pag.mayB f.1 f.2 = false from hmay)))
                  clear hmay
                  go_quiet (first | (go_at_call 48; exact HM.out _))
                  go_wp2_with fail
                  go_ret
                  exact ⟨congrArg (fun b => Ending.returned (.bool b)) (by rw [HQ.out, HS.out]), below_drewN' HBw4.out _⟩
                | true =>
                  rw [hmay] at HM
                  have HMay := hide (show Pag.mayB f.1 f.2 = true from hmay)
                  clear hmay
                  cases k with
                  | zero =>
                    have HRn := hide (Pag.rise_next HRi.out HF.out HMay.out (fun d h => absurd h (by omega)))
                    go_quiet (first | (go_at_call 48; exact HM.out _))
                    go_wp2_with fail
                    go_roundg (n - (0 + 1))
                    case measure => omega
                    case rel => exact ⟨0 + 1, by omega, rfl, by go_num, HRn.out, below_drewN' HB4.out _⟩
                  | succ m =>
                    obtain ⟨g', off', d, Ad, cd, Avd, cvd, e', hg', hd, dd0, dd1, hrd, j1, j2, j3, _⟩ := (HL.out.below HBw4.out (Nat.le_refl _)).at (show m < n by omega)
                    injection e' with e'
                    injection e' with e1 e2
                    subst e1 e2
                    have HD := hide hd
                    have HRd := hide hrd
                    obtain ⟨z, hz⟩ : ∃ z, z = cmpB d.1 f.1 := ⟨_, rfl⟩
                    have HZ := hide hz
                    have HC : Hid (∀ q, Calls Try.prog 40 #[.slice Ad d.1.length cd, .slice Ak f.1.length ck] (w4.drewN q) fun e w' => e = .returned (.int .i64 z) ∧ ∃ m', w' = w4.drewN m') := fun q => (cmp_any Ad Ak d.1.length cd f.1.length ck d.1 f.1 (w4.drewN q) _ _ (HRd.out.keep fun _ _ => rfl) (HRk.out.keep fun _ _ => rfl)).mono fun e w' h => ⟨by rw [h.1, HZ.out], q, h.2.symm⟩
                    clear hd hrd hz
                    have v0 : (0 : Int) < ((m + 1 : Nat) : Int) := by omega
                    have v1 : IntKind.i64.wrap (((m + 1 : Nat) : Int) - 1) = (m : Int) := (IntWalk.i64_in _ (by omega)).trans (by omega)
                    have v2 : IntKind.i64.wrap ((m : Int) + 1 - 1) = (m : Int) := (IntWalk.i64_in _ (by omega)).trans (by omega)
                    have v3 : (m : Int) < (n : Int) := by omega
                    by_cases hc : z < 0
                    · have hc' : ¬ (0 ≤ z) := by omega
                      have hcd : decide (0 ≤ z) = false := decide_eq_false hc'
                      have HRn := hide (Pag.rise_next HRi.out HF.out HMay.out (fun d' _ hd' => by
                        rw [show m + 1 - 1 = m by omega, HD.out] at hd'
                        injection hd' with hd'
                        rw [← hd', ← HZ.out]
                        exact hc))
                      go_quiet (first | (go_at_call 48; exact HM.out _) | (go_at_call 40; exact HC.out _))
                      go_wp2_with fail
                      go_roundg (n - (m + 1 + 1))
                      case measure => omega
                      case rel => exact ⟨m + 1 + 1, by omega, rfl, by go_num, HRn.out, below_drewN' HB4.out _⟩
                    · have hc' : 0 ≤ z := by omega
                      have hcd : decide (0 ≤ z) = true := decide_eq_true hc'
                      have HS := hide (Pag.rise_stop HF.out (.inr ⟨d, by omega, by rw [show m + 1 - 1 = m by omega]; exact HD.out, by rw [← HZ.out]; exact hc⟩))
                      go_quiet (first | (go_at_call 48; exact HM.out _) | (go_at_call 40; exact HC.out _))
                      go_wp2_with fail
                      go_ret
                      exact ⟨congrArg (fun b => Ending.returned (.bool b)) (by rw [HQ.out, HS.out]), below_drewN' HBw4.out _⟩
              · obtain rfl : k = n := by omega
                have hr := HRi.out
                rw [List.take_of_length_le (by rw [← HN.out]; exact Nat.le_refl _)] at hr
                have HR2 := hide hr
                clear hr HRi
                go_wp2_with fail
                go_ret
                exact ⟨congrArg (fun b => Ending.returned (.bool b)) (by rw [HQ.out, HR2.out]), HBw.out⟩
end Go.Proofs.Ytpoilndlfbmhgaa
