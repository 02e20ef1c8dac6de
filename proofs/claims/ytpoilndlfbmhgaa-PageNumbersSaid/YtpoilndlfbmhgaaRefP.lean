/-
  The walks of chanceryref01's Number, Add, Cmp and of chanceryref07's May, Taken. Conditions: slices read as lists of bytes, cells as lists.
-/
import Derived.Test.YtpoilndlfbmhgaaPack
namespace Go.Proofs.Ytpoilndlfbmhgaa
open Go.RowKit

theorem rMay_any (A A' : Option Addr) (n c n' c' : Nat) (w : World) : Calls Try.prog 51 #[.slice A n c, .slice A' n' c'] w fun e w' => e = .returned (.bool (mayN n n')) ∧ w = w' := by
  obtain ⟨r, hr⟩ : ∃ r, r = mayN n n' := ⟨_, rfl⟩
  have HR := hide hr
  rw [← hr]
  clear hr
  by_cases h1 : 1 ≤ n
  · have h1i : (1 : Int) ≤ (n : Int) := by omega
    by_cases h2 : n ≤ 320
    · have h2i : (n : Int) ≤ 320 := by omega
      by_cases h3 : n' ≤ 576
      · have h3i : (n' : Int) ≤ 576 := by omega
        go_enter Try.func51, Try.ntmps51
        go_wp2_with fail
        go_ret
        exact ⟨congrArg (fun b => Ending.returned (.bool b)) (by rw [HR.out]; unfold mayN; simp [h1, h2, h3]), rfl⟩
      · have h3i : ¬ (n' : Int) ≤ 576 := by omega
        go_enter Try.func51, Try.ntmps51
        go_wp2_with fail
        go_ret
        exact ⟨congrArg (fun b => Ending.returned (.bool b)) (by rw [HR.out]; unfold mayN; simp [h1, h2, h3]), rfl⟩
    · have h2i : ¬ (n : Int) ≤ 320 := by omega
      go_enter Try.func51, Try.ntmps51
      go_wp2_with fail
      go_ret
      exact ⟨congrArg (fun b => Ending.returned (.bool b)) (by rw [HR.out]; unfold mayN; simp [h1, h2]), rfl⟩
  · have h1i : ¬ (1 : Int) ≤ (n : Int) := by omega
    go_enter Try.func51, Try.ntmps51
    go_wp2_with fail
    go_ret
    exact ⟨congrArg (fun b => Ending.returned (.bool b)) (by rw [HR.out]; unfold mayN; simp [h1]), rfl⟩

theorem drop_cons {l : List UInt8} {k : Nat} {c : UInt8} (h : l[k]? = some c) : l.drop k = c :: l.drop (k + 1) := by
  obtain ⟨h1, h2⟩ := List.getElem?_eq_some_iff.1 h
  rw [List.drop_eq_getElem_cons h1, h2]
set_option maxHeartbeats 400000 in
theorem rCmp_any (A A' : Option Addr) (n c n' c' : Nat) (l l' : List UInt8) (w : World) (B B' : Nat) (hl : Rb w B A n l) (hl' : Rb w B' A' n' l') (hn : n ≤ maxLen) :
    Calls Try.prog 41 #[.slice A n c, .slice A' n' c'] w fun e w' => e = .returned (.int .i64 (cmpB l l')) ∧ ∃ m, w' = w.drewN m := by
  unfold maxLen at hn
  have HL := hide hl
  have HL' := hide hl'
  obtain ⟨r, hr⟩ : ∃ r, r = cmpB l l' := ⟨_, rfl⟩
  have HR := hide hr
  rw [← hr]
  clear hl hl' hr
  go_enter Try.func41, Try.ntmps41
  go_wp2_with fail
  go_loopg [5] n (fun gg i wr => ∃ k : Nat, k ≤ n ∧ k ≤ n' ∧ gg = n - k ∧ i = .int .i64 (k : Nat) ∧ Hid (cmpB l l' = cmpB (l.drop k) (l'.drop k)) ∧ ∃ m, wr = w.drewN m)
  case atStart => exact ⟨0, Nat.zero_le _, Nat.zero_le _, rfl, rfl, rfl, 0, rfl⟩
  case round =>
    obtain ⟨k, hk, hk', rfl, rfl, HI, m, rfl⟩ := hrel
    by_cases h1 : k < n
    · by_cases h2 : k < n'
      · obtain ⟨g, off, x, rfl, hg, hx, hcx⟩ := HL.out.at h1
        obtain ⟨g', off', y, rfl, hg', hy, hcy⟩ := HL'.out.at h2
        have HN := hide (show cmpB (l.drop k) (l'.drop k) = if x < y then -1 else if y < x then 1 else cmpB (l.drop (k + 1)) (l'.drop (k + 1)) by rw [drop_cons hx, drop_cons hy]; rfl)
        clear hx hy
        by_cases hlt : x.toNat < y.toNat
        · have hlti : (x.toNat : Int) < (y.toNat : Int) := by omega
          have HV := hide (show cmpB l l' = -1 by rw [HI.out, HN.out, if_pos (UInt8.lt_iff_toNat_lt.2 hlt)])
          clear hlt
          go_wp2_with fail
          go_quiet (fail)
          go_wp2_with fail
          go_ret
          exact ⟨by rw [HR.out, HV.out]; rfl, _, World.drewN_drewN _ _ _⟩
        · have hlti : ¬ (x.toNat : Int) < (y.toNat : Int) := by omega
          have hxy : ¬ x < y := fun h => hlt (UInt8.lt_iff_toNat_lt.1 h)
          by_cases hgt : y.toNat < x.toNat
          · have hgti : (y.toNat : Int) < (x.toNat : Int) := by omega
            have HV := hide (show cmpB l l' = 1 by rw [HI.out, HN.out, if_neg hxy, if_pos (UInt8.lt_iff_toNat_lt.2 hgt)])
            clear hlt hgt hxy
            go_wp2_with fail
            go_quiet (fail)
            go_wp2_with fail
            go_quiet (fail)
            go_wp2_with fail
            go_ret
            exact ⟨by rw [HR.out, HV.out]; rfl, by simp only [World.drewN_drewN]; exact ⟨_, rfl⟩⟩
          · have hgti : ¬ (y.toNat : Int) < (x.toNat : Int) := by omega
            have hyx : ¬ y < x := fun h => hgt (UInt8.lt_iff_toNat_lt.1 h)
            have HV := hide (show cmpB l l' = cmpB (l.drop (k + 1)) (l'.drop (k + 1)) by rw [HI.out, HN.out, if_neg hxy, if_neg hyx])
            clear hlt hgt hxy hyx
            go_wp2_with fail
            go_quiet (fail)
            go_wp2_with fail
            go_quiet (fail)
            go_wp2_with fail
            go_roundg (n - (k + 1))
            case measure => omega
            case rel => exact ⟨k + 1, by omega, by omega, rfl, by go_num, HV.out, _, rfl⟩
      · have h2i : ¬ (k : Int) < (n' : Int) := by omega
        have HV := hide (show cmpB l l' = 1 by
          rw [HI.out, List.drop_of_length_le (l := l') (by rw [HL'.out.len]; omega)]
          obtain ⟨g, off, x, _, _, hx, _⟩ := HL.out.at h1
          rw [drop_cons hx]
          rfl)
        have hd1 : ¬ (n : Int) < (n' : Int) := by omega
        have hd2 : (n' : Int) < (n : Int) := by omega
        go_wp2_with fail
        go_ret
        exact ⟨by rw [HR.out, HV.out]; rfl, _, rfl⟩
    · have h1i : ¬ (k : Int) < (n : Int) := by omega
      by_cases h2 : k < n'
      · have HV := hide (show cmpB l l' = -1 by
          rw [HI.out, List.drop_of_length_le (l := l) (by rw [HL.out.len]; omega)]
          obtain ⟨g, off, x, _, _, hx, _⟩ := HL'.out.at h2
          rw [drop_cons hx]
          rfl)
        have hd1 : (n : Int) < (n' : Int) := by omega
        go_wp2_with fail
        go_ret
        exact ⟨by rw [HR.out, HV.out]; rfl, _, rfl⟩
      · have hd1 : ¬ (n : Int) < (n' : Int) := by omega
        have hd2 : ¬ (n' : Int) < (n : Int) := by omega
        have HV := hide (show cmpB l l' = 0 by
          rw [HI.out, List.drop_of_length_le (l := l) (by rw [HL.out.len]; omega), List.drop_of_length_le (l := l') (by rw [HL'.out.len]; omega)]
          rfl)
        go_wp2_with fail
        go_ret
        exact ⟨by rw [HR.out, HV.out]; rfl, _, rfl⟩
/-- Number(b, at, n), the bytes being there. -/
theorem le_step (l : List UInt8) (a i k : Nat) (c : UInt8) (hi : i < k) (h : l[a + i]? = some c) : le ((l.drop (a + i)).take (k - i)) = c.toNat + 256 * le ((l.drop (a + (i + 1))).take (k - (i + 1))) := by
  rw [drop_cons h, show k - i = (k - (i + 1)) + 1 by omega, List.take_succ_cons]
  rfl
theorem le_take_lt (l : List UInt8) (a k : Nat) : le ((l.drop a).take k) < 256 ^ k := by
  refine Nat.lt_of_lt_of_le (le_lt _) (Nat.pow_le_pow_right (by omega) ?_)
  simp
  omega
set_option maxHeartbeats 400000 in
theorem rNumber_yes (A : Option Addr) (n c : Nat) (l : List UInt8) (a k : Nat) (w : World) (hl : Rb w w.heap.size A n l) (hk : k ≤ 8) (ha : a + k ≤ n) (hn : n ≤ maxLen) :
    Calls Try.prog 50 #[.slice A n c, .int .i64 (a : Int), .int .i64 (k : Int)] w fun e w' => e = .returned (.tuple #[.int .u64 (leAt l a k : Nat), .bool true]) ∧ w = w' := by
  unfold maxLen at hn
  have HL := hide hl
  clear hl
  have h0 : ¬ (a : Int) < 0 := by omega
  have h1 : ¬ (n : Int) < (k : Int) := by omega
  have h2 : ¬ (n : Int) - (k : Int) < (a : Int) := by omega
  go_enter Try.func50, Try.ntmps50
  go_wp2_with fail
  go_loopg [8, 9] k (fun gg v i wr => ∃ j : Nat, j ≤ k ∧ gg = j * 1 ∧ i = .int .i64 ((j : Int) - 1) ∧ v = .int .u64 ((le ((l.drop (a + j)).take (k - j)) : Nat) : Int) ∧ wr = w)
  case atStart => exact ⟨k, Nat.le_refl _, by omega, int_eq (by omega), by simp [le], rfl⟩
  case round =>
    obtain ⟨j, hj, rfl, rfl, rfl, rfl⟩ := hrel
    cases j with
    | zero =>
      have hm : ¬ (0 : Int) ≤ ((0 : Nat) : Int) - 1 := by omega
      go_wp2_with fail
      go_ret2
      exact ⟨rfl, rfl⟩
    | succ i =>
      obtain ⟨b, off, ch, rfl, hb, hch, hcell⟩ := HL.out.at (show a + i < n by omega)
      have hs := le_step l a i k ch (by omega) hch
      have hlt := le_take_lt l (a + i) (k - i)
      have hp : 256 ^ (k - i) ≤ 256 ^ 8 := Nat.pow_le_pow_right (by omega) (by omega)
      have hp8 : (256 : Nat) ^ 8 = 18446744073709551616 := by decide
      obtain ⟨v, hv⟩ : ∃ v, v = le ((l.drop (a + (i + 1))).take (k - (i + 1))) := ⟨_, rfl⟩
      rw [← hv] at hs ⊢
      have hb8 := ch.toNat_lt
      have hvb : 256 * v + ch.toNat < 18446744073709551616 := by omega
      have HS := hide hs
      clear hs hv hch hlt hp hp8
      go_wp2_with fail
      go_roundg (i * 1)
      case measure => omega
      case rel => exact ⟨i, by omega, rfl, int_eq (by omega), int_eq (by rw [HS.out]; omega), rfl⟩
/-- Number(b, at, n), the bytes not being there. -/
theorem rNumber_no (A : Option Addr) (n c a k : Nat) (w : World) (hk : k ≤ 8) (ha : n < a + k) (hn : n ≤ maxLen) :
    Calls Try.prog 50 #[.slice A n c, .int .i64 (a : Int), .int .i64 (k : Int)] w fun e w' => e = .returned (.tuple #[.int .u64 0, .bool false]) ∧ w = w' := by
  unfold maxLen at hn
  have h0 : ¬ (a : Int) < 0 := by omega
  by_cases h1 : n < k
  · have h1i : (n : Int) < (k : Int) := by omega
    go_enter Try.func50, Try.ntmps50
    go_wp2_with fail
    go_ret2
    exact ⟨rfl, rfl⟩
  · have h1i : ¬ (n : Int) < (k : Int) := by omega
    have h2 : (n : Int) - (k : Int) < (a : Int) := by omega
    go_enter Try.func50, Try.ntmps50
    go_wp2_with fail
    go_ret2
    exact ⟨rfl, rfl⟩
end Go.Proofs.Ytpoilndlfbmhgaa
