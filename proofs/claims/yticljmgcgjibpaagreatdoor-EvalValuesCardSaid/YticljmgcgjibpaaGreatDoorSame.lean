/-
  The walks of chancerykit.SameRow, CopyRow, beside chapter 24's rows. Conditions: the rows read as lists of values.
-/
import Derived.Test.YticljmgcgjibpaaGreatDoorEvH
import Derived.Test.YticljmgcgjibpaaGreatDoorValEq
namespace Go.Proofs.YticljmgcgjibpaaGreatDoor
open Go.RowKit

theorem wpList_appW {ops : Array Oper} {rest : List Oper} {o : Oper} {a : Act} {Q : Exit → Act → World → Prop} {w0 : World} {cs : Array Value} {mk : Nat × Nat} {t : TypeId} (ht : Tryz.prog.underlying t = some (.slice 25)) (hgd : o.guard = none) (s x : Operand)
    (ho : o.op = .call { callee := .builtin .append, args := #[s, x], argTypes := #[t, t] })
    (base : Nat) (v : Value) (n : Nat) (vs : List Cell.Val) (hs : a.eval s = v) (hown : w0.ownsRow base 25 3 v n (vcells vs))
    (c : Nat) (kd : UInt8) (nn : Int) (ss : ByteArray) (hx : a.eval x = .slice (some ⟨w0.heap.size, 0, none⟩) 1 c) (hcs : cs = #[.int .u8 (kd.toNat : Int), .int .i64 nn, .string ss]) (hn : (n + 1) * 32 ≤ 140737488355328) (hbase : base ≤ w0.heap.size)
    (h : ∀ v' w', w'.ownsRow base 25 3 v' (n + 1) (vcells (vs ++ [⟨kd, nn, ss⟩])) → Below base w0 w' → wpList Tryz.prog ops Q rest (a.put o.dst v') w') : wpList Tryz.prog ops Q (o :: rest) a (w0.alloc (.cells cs 25 mk)) := by
  subst hcs
  obtain ⟨i0, hi0, hz0, hz1, hz2⟩ := info_parts infoV
  have hr : Rd (w0.alloc (.cells #[.int .u8 (kd.toNat : Int), .int .i64 nn, .string ss] 25 mk)) (w0.heap.size + 1) 3 (some ⟨w0.heap.size, 0, none⟩) 1 (vcells [⟨kd, nn, ss⟩]) := by
    have := Rd.lit w0 25 (vcells [⟨kd, nn, ss⟩]) mk
    refine ⟨rfl, fun _ => ?_⟩
    exact this.2 (by show 0 < 3; omega)
  refine wpList_append_rd (w0.alloc _) hgd s x t ho base 25 i0 _ 3 32 ht hi0 hz0 hz1 hz2 rfl (by omega) v n _ hs (hown.alloc _) _ _ 1 c _ hx hr (vcells_one _) (by unfold maxLen; omega) hn (by simp; omega) ?_
  intro v' w' h1 h2 h3
  rw [← vcells_append] at h1
  exact h v' w' h1 (((Below.refl _ _).alloc hbase _).trans h2)
theorem vtake_snoc (l : List Cell.Val) (k : Nat) (x : Cell.Val) (h : l[k]? = some x) : l.take k ++ [x] = l.take (k + 1) := by
  rw [List.take_add_one, h]
  rfl

set_option maxHeartbeats 800000 in
theorem copyValues_any (A : Option Addr) (n c : Nat) (r : List Cell.Val) (w : World) (hv : Rv w w.heap.size A n r) (hn : n * 32 ≤ 140737488355328) :
    Calls Tryz.prog 19 #[.slice A n c] w fun e w' => ∃ v, e = .returned v ∧ w'.ownsRow w.heap.size 25 3 v n (vcells r) ∧ Below w.heap.size w w' := by
  have HL := hide hv
  clear hv
  go_enter Tryz.func19, Tryz.ntmps19
  go_wp2_with fail
  go_loopw [3, 4] (fun v i wr => ∃ k : Nat, k ≤ n ∧ i = .int .i64 (k : Nat) ∧ wr.ownsRow w.heap.size 25 3 v k (vcells (r.take k)) ∧ Below w.heap.size w wr) (fun _ i _ => n - (intOf i).toNat)
  case atStart => exact ⟨0, Nat.zero_le _, rfl, own_nil _ _ _ _, Below.refl _ _⟩
  case round =>
    obtain ⟨k, hk, rfl, hown, hbel⟩ := hrel
    have HO := hide hown
    have HB := hide hbel
    have hsz := hbel.size
    clear hown hbel
    by_cases hlt : k < n
    · obtain ⟨b, off, kd, nn, ss, rfl, hb, hch, h0, h1, h2, hs1⟩ := (HL.out.below HB.out (Nat.le_refl _)).at hlt
      have HE := hide (vtake_snoc r k _ hch)
      have hkI : (k : Int) < (n : Int) := by omega
      clear hch
      go_wp2_with (at_builtin; refine wpList_appW Tryz.underlying29 rfl (.tmp 11) (.tmp 16) rfl w.heap.size _ k (r.take k) rfl HO.out _ kd nn ss rfl rfl (by omega) hsz ?_; intro v3 w3 hown3 hb3; have HO3 := hide hown3; have HB3 := hide (HB.out.trans hb3); clear hown3 hb3)
      go_roundw
      case rel => exact ⟨k + 1, by omega, by go_num, by rw [← HE.out]; exact HO3.out, HB3.out⟩
      case measure => simp [intOf]; omega
    · obtain rfl : k = n := by omega
      obtain ⟨A1, c1, rfl⟩ := own_sl HO.out
      go_wp2_with fail
      go_ret
      have := HO.out
      rw [List.take_of_length_le (by rw [HL.out.len]; exact Nat.le_refl _)] at this
      exact ⟨_, rfl, this, HB.out⟩
theorem copyRow_any (A : Option Addr) (n c : Nat) (r : List Cell.Val) (w : World) (hv : Rv w w.heap.size A n r) (hn : n * 32 ≤ 140737488355328) :
    Calls Tryz.prog 6 #[.slice A n c] w fun e w' => ∃ v, e = .returned v ∧ w'.ownsRow w.heap.size 25 3 v n (vcells r) ∧ Below w.heap.size w w' := by
  have HL := hide hv
  clear hv
  go_enter Tryz.func6, Tryz.ntmps6
  go_wp2_with fail
  refine (copyValues_any A n c r w HL.out hn).mono ?_
  rintro e w1 ⟨v, rfl, hown, hb⟩
  obtain ⟨A1, c1, rfl⟩ := own_sl hown
  have HO := hide hown
  have HB := hide hb
  clear hown hb
  go_wp2_with fail
  go_ret
  exact ⟨_, rfl, HO.out, HB.out⟩

theorem vtake_succ {l l' : List Cell.Val} {k : Nat} {a : Cell.Val} (h : l.take k = l'.take k) (h1 : l[k]? = some a) (h2 : l'[k]? = some a) : l.take (k + 1) = l'.take (k + 1) := by
  rw [List.take_add_one, List.take_add_one, h, h1, h2]

set_option maxHeartbeats 1600000 in
theorem sameValues_any (A A' : Option Addr) (n c n' c' : Nat) (r r' : List Cell.Val) (w : World) (B B' : Nat) (hv : Rv w B A n r) (hv' : Rv w B' A' n' r') (hn : n ≤ 9223372036854775807) :
    Calls Tryz.prog 34 #[.slice A n c, .slice A' n' c'] w fun e w' => ∃ b, e = .returned (.bool b) ∧ (b = true ↔ r = r') ∧ ∃ q, w' = w.drewN q := by
  have HL := hide hv
  have HL' := hide hv'
  clear hv hv'
  by_cases hne : n = n'
  · subst hne
    have hb : ((n : Int) != (n : Int)) = false := by simp
    go_enter Tryz.func34, Tryz.ntmps34
    go_wp2_with fail
    go_loopw [5] (fun i wr => ∃ k q : Nat, k ≤ n ∧ i = .int .i64 (k : Nat) ∧ wr = w.drewN q ∧ Hid (r.take k = r'.take k)) (fun i _ => n - (intOf i).toNat)
    case atStart => exact ⟨0, 0, Nat.zero_le _, rfl, rfl, rfl⟩
    case round =>
      obtain ⟨k, q, hk, rfl, rfl, HT⟩ := hrel
      by_cases hlt : k < n
      · obtain ⟨b, off, kd, nn, ss, rfl, _, hx, h0, h1, h2, _⟩ := HL.out.at hlt
        obtain ⟨b', off', kd', nn', ss', rfl, _, hy, h0', h1', h2', _⟩ := HL'.out.at hlt
        have hkI : (k : Int) < (n : Int) := by omega
        have HX := hide hx
        have HY := hide hy
        clear hx hy
        obtain ⟨q1, hq1⟩ : ∃ q1, q1 = vbeq ⟨kd, nn, ss⟩ ⟨kd', nn', ss'⟩ := ⟨_, rfl⟩
        have HQ := hide hq1
        have e1 : ∀ w, (binOp .neq 25 (.agg #[.int .u8 (kd.toNat : Int), .int .i64 nn, .string ss]) (.agg #[.int .u8 (kd'.toNat : Int), .int .i64 nn', .string ss'])).run Tryz.prog w = .ok (.bool (!q1)) w := by
          intro w
          rw [hq1]
          exact neqV w ⟨kd, nn, ss⟩ ⟨kd', nn', ss'⟩
        have e2 := guardV
        clear hq1
        cases q1
        · go_wp2_with fail
          go_quiet (fail)
          go_wp2
          go_ret
          refine ⟨false, rfl, ⟨fun h => (by cases h), ?_⟩, _, World.drewN_drewN _ _ _⟩
          rintro rfl
          have := HX.out.symm.trans HY.out
          injection this with this
          have h2 := (vbeq_iff _ _).2 this
          rw [← HQ.out] at h2
          cases h2
        · have heq := (vbeq_iff _ _).1 HQ.out.symm
          rw [heq] at HX
          have HS := hide (vtake_succ HT.out HX.out HY.out)
          clear heq
          go_wp2_with fail
          go_quiet (fail)
          go_wp2
          go_roundw
          case rel => exact ⟨k + 1, _, by omega, by go_num, rfl, HS.out⟩
          case measure => simp [intOf]; omega
      · obtain rfl : k = n := by omega
        have HF : Hid (r = r') := by
          have h := HT.out
          rw [List.take_of_length_le (by rw [HL.out.len]; exact Nat.le_refl _), List.take_of_length_le (by rw [HL'.out.len]; exact Nat.le_refl _)] at h
          exact h
        go_wp2
        go_ret
        exact ⟨true, rfl, ⟨fun _ => HF.out, fun _ => rfl⟩, q, rfl⟩
  · have hb : ((n : Int) != (n' : Int)) = true := by simp; omega
    have HF : Hid (¬ r = r') := by
      rintro rfl
      exact hne (by rw [← HL.out.len, HL'.out.len])
    go_enter Tryz.func34, Tryz.ntmps34
    go_wp2_with fail
    go_ret
    exact ⟨false, rfl, ⟨fun h => (by cases h), fun h => absurd h HF.out⟩, 0, rfl⟩
theorem sameRow_any (A A' : Option Addr) (n c n' c' : Nat) (r r' : List Cell.Val) (w : World) (B B' : Nat) (hv : Rv w B A n r) (hv' : Rv w B' A' n' r') (hn : n ≤ 9223372036854775807) :
    Calls Tryz.prog 12 #[.slice A n c, .slice A' n' c'] w fun e w' => ∃ b, e = .returned (.bool b) ∧ (b = true ↔ r = r') ∧ ∃ q, w' = w.drewN q := by
  have HL := hide hv
  have HL' := hide hv'
  clear hv hv'
  go_enter Tryz.func12, Tryz.ntmps12
  go_wp2_with fail
  refine (sameValues_any A A' n c n' c' r r' w B B' HL.out HL'.out hn).mono ?_
  rintro e w1 ⟨b, rfl, hb, q, rfl⟩
  have HB := hide hb
  clear hb
  go_wp2_with fail
  go_ret
  exact ⟨b, rfl, HB.out, q, rfl⟩
end Go.Proofs.YticljmgcgjibpaaGreatDoor
