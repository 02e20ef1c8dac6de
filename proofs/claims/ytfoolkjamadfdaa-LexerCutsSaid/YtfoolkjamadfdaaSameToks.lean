/-
  The walk of chancerykit.SameTokens. Conditions: the rows read as lists of tokens.
-/
import Derived.Test.YtfoolkjamadfdaaSameTok
namespace Go.Proofs.Ytfoolkjamadfdaa
open Go.RowKit

theorem neqK (kd kd' : UInt8) (ss ss' : List UInt8) (a a' : Nat) (s1 s2 : ByteArray) (h1 : s1 = ⟨ss.toArray⟩) (h2 : s2 = ⟨ss'.toArray⟩) (b : Bool) (hb : b = !decide ((kd, ss, a) = (kd', ss', a'))) : ∀ w : World, (binOp .neq 31 (.agg #[.int .u8 (kd.toNat : Int), .string s1, .int .i64 ((a : Nat) : Int)]) (.agg #[.int .u8 (kd'.toNat : Int), .string s2, .int .i64 ((a' : Nat) : Int)])).run Try.prog w = .ok (.bool b) w := by
  intro w
  rw [neqT, hb]
  congr 3
  rw [Bool.eq_iff_iff, h1, h2]
  simp only [Bool.and_eq_true, beq_iff_eq, decide_eq_true_eq, Prod.mk.injEq, ByteArray.toList_eq]
  constructor
  · rintro ⟨x, y, z⟩
    exact ⟨UInt8.toNat_inj.1 (by omega), y, by omega⟩
  · rintro ⟨rfl, rfl, rfl⟩
    exact ⟨rfl, rfl, rfl⟩

set_option maxHeartbeats 1600000 in
theorem sameToks_any (A A' : Option Addr) (n c n' c' : Nat) (ts ts' : List Lex.Tok) (w : World) (B B' : Nat) (hv : Rk w B A n ts) (hv' : Rk w B' A' n' ts') (hn : n ≤ 9223372036854775807) :
    Calls Try.prog 8 #[.slice A n c, .slice A' n' c'] w fun e w' => ∃ b, e = .returned (.bool b) ∧ (b = true ↔ ts = ts') ∧ ∃ q, w' = w.drewN q := by
  have HL := hide hv
  have HL' := hide hv'
  clear hv hv'
  by_cases hne : n = n'
  · subst hne
    have hb : ((n : Int) != (n : Int)) = false := by simp
    go_enter Try.func8, Try.ntmps8
    go_wp2_with fail
    go_loopw [5] (fun i wr => ∃ k q : Nat, k ≤ n ∧ i = .int .i64 (k : Nat) ∧ wr = w.drewN q ∧ Hid (ts.take k = ts'.take k)) (fun i _ => n - (intOf i).toNat)
    case atStart => exact ⟨0, 0, Nat.zero_le _, rfl, rfl, rfl⟩
    case round =>
      obtain ⟨k, q, hk, rfl, rfl, HT⟩ := hrel
      by_cases hlt : k < n
      · obtain ⟨b, off, kd, ss, aa, rfl, _, hx, h0, h1, h2⟩ := HL.out.at hlt
        obtain ⟨b', off', kd', ss', aa', rfl, _, hy, h0', h1', h2'⟩ := HL'.out.at hlt
        have hkI : (k : Int) < (n : Int) := by omega
        have HX := hide hx
        have HY := hide hy
        clear hx hy
        obtain ⟨s1, hs1⟩ : ∃ s : ByteArray, s = ⟨ss.toArray⟩ := ⟨_, rfl⟩
        obtain ⟨s2, hs2⟩ : ∃ s : ByteArray, s = ⟨ss'.toArray⟩ := ⟨_, rfl⟩
        rw [← hs1] at h1
        rw [← hs2] at h1'
        have u2 := guardT
        by_cases heq : (kd, ss, aa) = (kd', ss', aa')
        · have u1 := neqK kd kd' ss ss' aa aa' s1 s2 hs1 hs2 false (by simp [heq])
          have HN := hide (stake_succ HT.out HX.out (by rw [heq]; exact HY.out))
          clear heq hs1 hs2
          go_wp2_with fail
          go_quiet (fail)
          go_wp2
          go_roundw
          case rel => exact ⟨k + 1, _, by omega, by go_num, rfl, HN.out⟩
          case measure => simp [intOf]; omega
        · have u1 := neqK kd kd' ss ss' aa aa' s1 s2 hs1 hs2 true (by rw [decide_eq_false heq]; rfl)
          have HF : Hid (¬ ts = ts') := by
            intro h
            have h1 := HX.out
            rw [h, HY.out] at h1
            injection h1 with h1
            exact heq h1.symm
          clear heq hs1 hs2
          go_wp2_with fail
          go_quiet (fail)
          go_wp2
          go_ret
          exact ⟨false, rfl, ⟨fun h => (by cases h), fun h => absurd h HF.out⟩, _, World.drewN_drewN _ _ _⟩
      · obtain rfl : k = n := by omega
        have HF : Hid (ts = ts') := by
          have h := HT.out
          rw [List.take_of_length_le (by rw [HL.out.len]; exact Nat.le_refl _), List.take_of_length_le (by rw [HL'.out.len]; exact Nat.le_refl _)] at h
          exact h
        go_wp2
        go_ret
        exact ⟨true, rfl, ⟨fun _ => HF.out, fun _ => rfl⟩, q, rfl⟩
  · have hb : ((n : Int) != (n' : Int)) = true := by simp; omega
    have HF : Hid (¬ ts = ts') := by
      intro h
      have := congrArg List.length h
      rw [HL.out.len, HL'.out.len] at this
      exact hne this
    go_enter Try.func8, Try.ntmps8
    go_wp2_with fail
    go_ret
    exact ⟨false, rfl, ⟨fun h => (by cases h), fun h => absurd h HF.out⟩, 0, rfl⟩
end Go.Proofs.Ytfoolkjamadfdaa
