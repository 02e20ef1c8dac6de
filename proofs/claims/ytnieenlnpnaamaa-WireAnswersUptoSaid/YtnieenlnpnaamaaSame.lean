/-
  The walks of chancerykit.SameRow, CopyRow. Conditions: the rows read as lists of values.
-/
import Derived.Test.YtnieenlnpnaamaaValEq
import Derived.Test.YtnieenlnpnaamaaRead
namespace Go.Proofs.Ytnieenlnpnaamaa
open Go.RowKit

theorem wpList_appW {ops : Array Oper} {rest : List Oper} {o : Oper} {a : Act} {Q : Exit → Act → World → Prop} {w0 : World} {cs : Array Value} {mk : Nat × Nat} {t : TypeId} (ht : Try.prog.underlying t = some (.slice 83)) (hgd : o.guard = none) (s x : Operand)
    (ho : o.op = .call { callee := .builtin .append, args := #[s, x], argTypes := #[t, t] })
    (base : Nat) (v : Value) (n : Nat) (vs : List Cell.Val) (hs : a.eval s = v) (hown : w0.ownsRow base 83 3 v n (vcells vs))
    (c : Nat) (kd : UInt8) (nn : Int) (ss : ByteArray) (hx : a.eval x = .slice (some ⟨w0.heap.size, 0, none⟩) 1 c) (hcs : cs = #[.int .u8 (kd.toNat : Int), .int .i64 nn, .string ss]) (hn : (n + 1) * 32 ≤ 140737488355328) (hbase : base ≤ w0.heap.size)
    (h : ∀ v' w', w'.ownsRow base 83 3 v' (n + 1) (vcells (vs ++ [⟨kd, nn, ss⟩])) → Below base w0 w' → wpList Try.prog ops Q rest (a.put o.dst v') w') : wpList Try.prog ops Q (o :: rest) a (w0.alloc (.cells cs 83 mk)) := by
  subst hcs
  obtain ⟨i0, hi0, hz0, hz1, hz2⟩ := info_parts infoV
  have hr : Rd (w0.alloc (.cells #[.int .u8 (kd.toNat : Int), .int .i64 nn, .string ss] 83 mk)) (w0.heap.size + 1) 3 (some ⟨w0.heap.size, 0, none⟩) 1 (vcells [⟨kd, nn, ss⟩]) := by
    have := Rd.lit w0 83 (vcells [⟨kd, nn, ss⟩]) mk
    refine ⟨rfl, fun _ => ?_⟩
    exact this.2 (by show 0 < 3; omega)
  refine wpList_append_rd (w0.alloc _) hgd s x t ho base 83 i0 _ 3 32 ht hi0 hz0 hz1 hz2 rfl (by omega) v n _ hs (hown.alloc _) _ _ 1 c _ hx hr (vcells_one _) (by unfold maxLen; omega) hn (by simp; omega) ?_
  intro v' w' h1 h2 h3
  rw [← vcells_append] at h1
  exact h v' w' h1 (((Below.refl _ _).alloc hbase _).trans h2)
theorem vtake_snoc (l : List Cell.Val) (k : Nat) (x : Cell.Val) (h : l[k]? = some x) : l.take k ++ [x] = l.take (k + 1) := by
  rw [List.take_add_one, h]
  rfl
theorem Rv.own {w : World} {base n c : Nat} {A : Option Addr} {r : List Cell.Val} (h : w.ownsRow base 83 3 (.slice A n c) n (vcells r)) (hr : ∀ v ∈ r, v.s.size ≤ maxLen ∧ -9223372036854775808 ≤ v.n ∧ v.n ≤ 9223372036854775807) : Rv w w.heap.size A n r := ⟨Rd.own h, hr⟩

theorem vtake_succ {l l' : List Cell.Val} {k : Nat} {a : Cell.Val} (h : l.take k = l'.take k) (h1 : l[k]? = some a) (h2 : l'[k]? = some a) : l.take (k + 1) = l'.take (k + 1) := by
  rw [List.take_add_one, List.take_add_one, h, h1, h2]

set_option maxHeartbeats 1600000 in
theorem sameValues_any (A A' : Option Addr) (n c n' c' : Nat) (r r' : List Cell.Val) (w : World) (B B' : Nat) (hv : Rv w B A n r) (hv' : Rv w B' A' n' r') (hn : n ≤ 9223372036854775807) :
    Calls Try.prog 56 #[.slice A n c, .slice A' n' c'] w fun e w' => ∃ b, e = .returned (.bool b) ∧ (b = true ↔ r = r') ∧ ∃ q, w' = w.drewN q := by
  have HL := hide hv
  have HL' := hide hv'
  clear hv hv'
  by_cases hne : n = n'
  · subst hne
    have hb : ((n : Int) != (n : Int)) = false := by simp
    go_enter Try.func56, Try.ntmps56
    go_wp2_with fail
    go_loopw [5] (fun i wr => ∃ k q : Nat, k ≤ n ∧ i = .int .i64 (k : Nat) ∧ wr = w.drewN q ∧ Hid (r.take k = r'.take k)) (fun i _ => n - (intOf i).toNat)
    case atStart => exact ⟨0, 0, Nat.zero_le _, rfl, rfl, rfl⟩
    case round =>
      obtain ⟨k, q, hk, rfl, rfl, HT⟩ := hrel
      by_cases hlt : k < n
      · obtain ⟨b, off, kd, nn, ss, rfl, _, hx, h0, h1, h2, _, _, _⟩ := HL.out.at hlt
        obtain ⟨b', off', kd', nn', ss', rfl, _, hy, h0', h1', h2', _, _, _⟩ := HL'.out.at hlt
        have hkI : (k : Int) < (n : Int) := by omega
        have HX := hide hx
        have HY := hide hy
        clear hx hy
        obtain ⟨q1, hq1⟩ : ∃ q1, q1 = vbeq ⟨kd, nn, ss⟩ ⟨kd', nn', ss'⟩ := ⟨_, rfl⟩
        have HQ := hide hq1
        have e1 : ∀ w, (binOp .neq 83 (.agg #[.int .u8 (kd.toNat : Int), .int .i64 nn, .string ss]) (.agg #[.int .u8 (kd'.toNat : Int), .int .i64 nn', .string ss'])).run Try.prog w = .ok (.bool (!q1)) w := by
          intro w
          rw [hq1]
          exact neqV w ⟨kd, nn, ss⟩ ⟨kd', nn', ss'⟩
        have e2 := guardV
        clear hq1
        cases q1
        · go_wp2_with fail
          go_quiet (fail)
          go_wp2
          go_ret
          refine ⟨false, rfl, ⟨fun h => (by cases h), ?_⟩, _, World.drewN_drewN _ _ _⟩
          rintro rfl
          have := HX.out.symm.trans HY.out
          injection this with this
          have h2 := (vbeq_iff _ _).2 this
          rw [← HQ.out] at h2
          cases h2
        · have heq := (vbeq_iff _ _).1 HQ.out.symm
          rw [heq] at HX
          have HS := hide (vtake_succ HT.out HX.out HY.out)
          clear heq
          go_wp2_with fail
          go_quiet (fail)
          go_wp2
          go_roundw
          case rel => exact ⟨k + 1, _, by omega, by go_num, rfl, HS.out⟩
          case measure => simp [intOf]; omega
      · obtain rfl : k = n := by omega
        have HF : Hid (r = r') := by
          have h := HT.out
          rw [List.take_of_length_le (by rw [HL.out.len]; exact Nat.le_refl _), List.take_of_length_le (by rw [HL'.out.len]; exact Nat.le_refl _)] at h
          exact h
        go_wp2
        go_ret
        exact ⟨true, rfl, ⟨fun _ => HF.out, fun _ => rfl⟩, q, rfl⟩
  · have hb : ((n : Int) != (n' : Int)) = true := by simp; omega
    have HF : Hid (¬ r = r') := by
      rintro rfl
      exact hne (by rw [← HL.out.len, HL'.out.len])
    go_enter Try.func56, Try.ntmps56
    go_wp2_with fail
    go_ret
    exact ⟨false, rfl, ⟨fun h => (by cases h), fun h => absurd h HF.out⟩, 0, rfl⟩
theorem sameRow_any (A A' : Option Addr) (n c n' c' : Nat) (r r' : List Cell.Val) (w : World) (B B' : Nat) (hv : Rv w B A n r) (hv' : Rv w B' A' n' r') (hn : n ≤ 9223372036854775807) :
    Calls Try.prog 55 #[.slice A n c, .slice A' n' c'] w fun e w' => ∃ b, e = .returned (.bool b) ∧ (b = true ↔ r = r') ∧ ∃ q, w' = w.drewN q := by
  have HL := hide hv
  have HL' := hide hv'
  clear hv hv'
  go_enter Try.func55, Try.ntmps55
  go_wp2_with fail
  refine (sameValues_any A A' n c n' c' r r' w B B' HL.out HL'.out hn).mono ?_
  rintro e w1 ⟨b, rfl, hb, q, rfl⟩
  have HB := hide hb
  clear hb
  go_wp2_with fail
  go_ret
  exact ⟨b, rfl, HB.out, q, rfl⟩
end Go.Proofs.Ytnieenlnpnaamaa
