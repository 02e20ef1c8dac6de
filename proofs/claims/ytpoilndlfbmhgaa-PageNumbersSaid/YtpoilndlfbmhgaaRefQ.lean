/-
  The walks of chanceryref01's Add and of chanceryref07's Taken, Right. Conditions: slices read as lists of bytes, cells as lists.
-/
import Derived.Test.YtpoilndlfbmhgaaRefP
namespace Go.Proofs.Ytpoilndlfbmhgaa
open Go.RowKit

set_option maxHeartbeats 400000 in
theorem rAdd_any (A : Option Addr) (n c : Nat) (l : List UInt8) (v k : Nat) (w : World) (hl : Rb w w.heap.size A n l) (hk : k ≤ 8) (hv : v < 18446744073709551616) (hn : n + 8 ≤ 140737488355328) :
    Calls Try.prog 39 #[.slice A n c, .int .u64 (v : Int), .int .i64 (k : Int)] w fun e w' => ∃ r, e = .returned r ∧ w'.ownsRow w.heap.size 5 1 r (n + k) ((l ++ leB v k).map B8) ∧ Below w.heap.size w w' := by
  obtain ⟨i0, hi0, hz0, hz1, hz2⟩ := info_parts info8
  have HL := hide hl
  clear hl
  go_enter Try.func39, Try.ntmps39
  go_wp2_with (at_builtin; refine wpList_app _ bt rfl (.tmp 9) (.tmp 10) rfl w.heap.size _ 0 [] rfl (own_nil _ _ _ _) _ A n c l rfl HL.out (by omega) (Nat.le_refl _) ?_; intro v2 w2 hown2 hb2 _; rw [List.nil_append, Nat.zero_add] at hown2; have HO2 := hide hown2; have HB2 := hide hb2; clear hown2 hb2)
  go_loopg [1, 7, 8] k (fun gg x r i wr => ∃ j : Nat, j ≤ k ∧ gg = k - j ∧ i = .int .i64 (j : Nat) ∧ x = .int .u64 ((v / 2 ^ (8 * j) : Nat) : Int) ∧ wr.ownsRow w.heap.size 5 1 r (n + j) ((l ++ leB v j).map B8) ∧ Below w.heap.size w wr)
  case atStart => exact ⟨0, Nat.zero_le _, rfl, rfl, by simp, by simpa [leB] using HO2.out, HB2.out⟩
  case round =>
    obtain ⟨j, hj, rfl, rfl, rfl, hown, hbel⟩ := hrel
    obtain ⟨w3, hw3⟩ : ∃ w3, w3 = wr := ⟨_, rfl⟩
    subst hw3
    have HO := hide hown
    have HB := hide hbel
    have hsz := HB.out.size
    clear hown hbel
    by_cases hlt : j < k
    · have hq : v / 2 ^ (8 * j) / 256 = v / 2 ^ (8 * (j + 1)) := by
        rw [Nat.div_div_eq_div_mul, show (256 : Nat) = 2 ^ 8 by decide, ← Nat.pow_add]
        congr 2
      have hqb : v / 2 ^ (8 * j) < 18446744073709551616 := Nat.lt_of_le_of_lt (Nat.div_le_self _ _) hv
      have HS : Hid (leB v (j + 1) = leB v j ++ [UInt8.ofNat (v / 2 ^ (8 * j) % 256)]) := rfl
      obtain ⟨q, hqq⟩ : ∃ q, q = v / 2 ^ (8 * j) := ⟨_, rfl⟩
      rw [← hqq] at hq hqb HS
      rw [← hqq]
      have HQ := hide hq
      have hby : (UInt8.ofNat (q % 256)).toNat = q % 256 := UInt8.toNat_ofNat_of_lt' (show q % 256 < 256 from Nat.mod_lt _ (by omega))
      have hbv : Value.int .u8 ((q : Int) % 256) = B8 (UInt8.ofNat (q % 256)) := by
        rw [B8, hby]
        exact int_eq (by omega)
      have HBv := hide hbv
      clear hq hqq hby hbv
      go_wp2_with (at_builtin; refine wpList_appL bt rfl (.tmp 17) (.tmp 21) rfl w.heap.size _ (n + j) (l ++ leB v j) rfl HO.out _ 1 1 [UInt8.ofNat (q % 256)] rfl rfl rfl (by rw [HBv.out]; rfl) (by omega) hsz ?_; intro v4 w4 hown4 hb4 _; have HO4 := hide hown4; have HB4 := hide (HB.out.trans hb4); clear hown4 hb4)
      go_roundg (k - (j + 1))
      case measure => omega
      case rel =>
        refine ⟨j + 1, by omega, rfl, by go_num, int_eq (by rw [← HQ.out]; omega), ?_, HB4.out⟩
        rw [HS.out, ← List.append_assoc]
        exact HO4.out
    · obtain rfl : j = k := by omega
      go_wp2_with fail
      go_ret
      exact ⟨_, rfl, HO.out, HB.out⟩
set_option linter.unusedVariables false in
set_option maxHeartbeats 800000 in
theorem rTaken_any (kd : UInt8) (nx : Int) (A : Option Addr) (n c : Nat) (cs : List Pag.Ce) (w : World) (hl : CeRd w w.heap.size A n cs) (hm : ∀ c ∈ cs, Pag.mayB c.1 c.2 = true) (hn : n ≤ 4000000000000) :
    Calls Try.prog 29 #[.agg #[.int .u8 (kd.toNat : Int), .int .i64 nx, .slice A n c]] w fun e w' => e = .returned (.int .i64 ((8 + Pag.taken cs : Nat) : Int)) ∧ Below w.heap.size w w' := by
  have HL := hide hl
  have HN := hide hl.1
  have htl := Pag.taken_le cs hm
  have hcl := hl.1
  have HM := hide hm
  have htk : ∀ k, k ≤ n → Pag.taken (cs.take k) ≤ 902 * k := fun k hk => by
    have := Pag.taken_le (cs.take k) fun c hc => hm c (List.mem_of_mem_take hc)
    have h2 := List.length_take_le k cs
    omega
  have HT := hide htk
  obtain ⟨w1, hw1⟩ : ∃ w1, w1 = w.alloc (.cells #[.int .u8 (kd.toNat : Int), .int .i64 nx, .slice A n c] 25) := ⟨_, rfl⟩
  have HK : Hid (Blk w1 w.heap.size 25 #[.int .u8 (kd.toNat : Int), .int .i64 nx, .slice A n c]) := by rw [hw1]; exact Blk.new _ _ _
  have HB1 : Hid (Below w.heap.size w w1) := by rw [hw1]; exact (Below.refl _ _).alloc (Nat.le_refl _) _
  have hs1 : w.heap.size < w1.heap.size := by rw [hw1]; simp
  clear hl htl hcl hm htk
  go_enter Try.func29, Try.ntmps29
  go_upto_region 1 with fail
  rw [← hw1]
  clear hw1
  go_wp2_with fail
  go_loopg [3, 4] n (fun gg s i wr => ∃ k t : Nat, k ≤ n ∧ gg = n - k ∧ i = .int .i64 (k : Nat) ∧ s = .int .i64 (t : Nat) ∧ Hid (t = 8 + Pag.taken (cs.take k)) ∧ t ≤ 8 + 902 * k ∧ Below w1.heap.size w1 wr)
  case atStart => exact ⟨0, 8, Nat.zero_le _, rfl, rfl, rfl, rfl, by omega, Below.refl _ _⟩
  case round =>
    obtain ⟨k, t, hk, rfl, rfl, rfl, HTk, htb, hbel⟩ := hrel
    obtain ⟨w3, hw3⟩ : ∃ w3, w3 = wr := ⟨_, rfl⟩
    subst hw3
    have HB := hide hbel
    have HBw := hide (HB1.out.trans (hbel.mono (Nat.le_of_lt hs1)))
    have hsz := hbel.size
    have HK3 := hide (HK.out.below hbel hs1)
    clear hbel
    have k2 := HK3.out.cell 2
    simp at k2
    by_cases hlt : k < n
    · obtain ⟨g, off, f, Ak, ck, Av, cv, rfl, hg, hf, d0, d1, _, h1, _, _, _, h2, _, _⟩ := (HL.out.below HBw.out (Nat.le_refl _)).at hlt
      have HE := hide (Pag.taken_take hf)
      have htn := HT.out (k + 1) (by omega)
      rw [HE.out] at htn
      have hts := HTk.out
      have hsf : Pag.sizeC f = 6 + f.1.length + f.2.length := rfl
      have hsf2 : t + (6 + f.1.length + f.2.length) ≤ 8 + 902 * (k + 1) := by omega
      have hlti : (k : Int) < (n : Int) := by omega
      clear hf htn hts hsf
      go_wp2_with fail
      go_quiet (fail)
      go_wp2_with fail
      go_roundg (n - (k + 1))
      case measure => omega
      case rel => exact ⟨k + 1, t + (6 + f.1.length + f.2.length), by omega, rfl, by go_num, int_eq (by omega), by show _ = _; rw [HE.out, HTk.out]; show _ = 8 + (_ + (6 + f.1.length + f.2.length)); omega, by omega, below_drewN' HB.out _⟩
    · obtain rfl : k = n := by omega
      have hT := HTk.out
      rw [List.take_of_length_le (by rw [← HN.out]; exact Nat.le_refl _)] at hT
      have HT2 := hide hT
      clear hT HTk
      go_wp2_with fail
      go_ret
      exact ⟨by rw [← HT2.out]; rfl, HBw.out⟩
end Go.Proofs.Ytpoilndlfbmhgaa
