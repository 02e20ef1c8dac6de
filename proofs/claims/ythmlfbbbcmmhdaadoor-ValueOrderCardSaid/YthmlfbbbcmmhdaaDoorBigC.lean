/-
  The walks of chanceryref17: big, told, sign: what they do to whole numbers. Conditions: numbers below 2^160.
-/
import Derived.Test.YthmlfbbbcmmhdaaDoorBigB
namespace Go.Proofs.YthmlfbbbcmmhdaaDoor
open Go.RowKit

/-- A whole number as cells: its sign, its five digits. -/
def G6 (neg : Bool) (V : Nat) : Array Value := #[.bool neg, .int .u64 ((Big.dig V 0 : Nat) : Int), .int .u64 ((Big.dig V 1 : Nat) : Int), .int .u64 ((Big.dig V 2 : Nat) : Int), .int .u64 ((Big.dig V 3 : Nat) : Int), .int .u64 ((Big.dig V 4 : Nat) : Int)]
theorem dig_small (V : Nat) (h : V ≤ 9223372036854775808) : Big.dig V 0 = V % 4294967296 ∧ Big.dig V 1 = V / 4294967296 ∧ Big.dig V 2 = 0 ∧ Big.dig V 3 = 0 ∧ Big.dig V 4 = 0 := by
  refine ⟨?_, ?_, ?_, ?_, ?_⟩
  · show V / 1 % 4294967296 = _; omega
  · show V / 4294967296 % 4294967296 = _; omega
  · show V / 18446744073709551616 % 4294967296 = _; omega
  · show V / 79228162514264337593543950336 % 4294967296 = _; omega
  · show V / 340282366920938463463374607431768211456 % 4294967296 = _; omega
theorem G6_small (neg : Bool) (V : Nat) (h : V ≤ 9223372036854775808) : G6 neg V = #[.bool neg, .int .u64 ((V % 4294967296 : Nat) : Int), .int .u64 ((V / 4294967296 : Nat) : Int), .int .u64 0, .int .u64 0, .int .u64 0] := by
  obtain ⟨h0, h1, h2, h3, h4⟩ := dig_small V h
  unfold G6
  rw [h0, h1, h2, h3, h4]
  rfl
theorem below_six {B g : Nat} {a w : World} (h : Below B a w) (hg : B ≤ g) (u0 u1 u2 u3 u4 u5 : Value) : Below B a ((((((w.setCell ⟨g, 0, none⟩ u0).setCell ⟨g, 1, none⟩ u1).setCell ⟨g, 2, none⟩ u2).setCell ⟨g, 3, none⟩ u3).setCell ⟨g, 4, none⟩ u4).setCell ⟨g, 5, none⟩ u5) :=
  (((((h.setCell hg _).setCell hg _).setCell hg _).setCell hg _).setCell hg _).setCell hg _
set_option maxHeartbeats 1600000 in
theorem big_any (n : Int) (w : World) (h0 : -9223372036854775808 ≤ n) (h1 : n ≤ 9223372036854775807) : Calls Tryd.prog 63 #[.int .i64 n] w fun e w' => e = .returned (.agg (G6 (decide (n < 0)) n.natAbs)) ∧ Below w.heap.size w w' := by
  have HG := hide (G6_small (decide (n < 0)) n.natAbs (by omega))
  by_cases hn : n < 0
  · rw [decide_eq_true hn] at HG ⊢
    obtain ⟨u, rfl⟩ : ∃ u : Nat, n = -(u : Int) := ⟨n.natAbs, by omega⟩
    rw [show (-(u : Int)).natAbs = u by omega] at HG ⊢
    have hu : u ≤ 9223372036854775808 := by omega
    have hwr : IntKind.u64.wrap (-IntKind.u64.wrap (-(u : Int))) = (u : Int) := by rw [IntKind.wrap_u64, IntKind.wrap_u64]; omega
    go_enter Tryd.func63, Tryd.ntmps63
    go_wp2_with fail
    refine bodyPost_ret (v := .agg #[.bool true, .int .u64 ((u % 4294967296 : Nat) : Int), .int .u64 ((u / 4294967296 : Nat) : Int), .int .u64 0, .int .u64 0, .int .u64 0]) (by simp [results, Tryd.results63, go_sem]) rfl ⟨by rw [HG.out], ?_⟩
    exact (Below.refl _ _).alloc (Nat.le_refl _) _
  · rw [decide_eq_false hn] at HG ⊢
    obtain ⟨u, rfl⟩ : ∃ u : Nat, n = (u : Int) := ⟨n.natAbs, by omega⟩
    rw [show ((u : Int)).natAbs = u by omega] at HG ⊢
    have hu : u ≤ 9223372036854775807 := by omega
    have hwr : IntKind.u64.wrap (u : Int) = (u : Int) := by rw [IntKind.wrap_u64]; omega
    clear hn
    go_enter Tryd.func63, Tryd.ntmps63
    go_wp2_with fail
    refine bodyPost_ret (v := .agg #[.bool false, .int .u64 ((u % 4294967296 : Nat) : Int), .int .u64 ((u / 4294967296 : Nat) : Int), .int .u64 0, .int .u64 0, .int .u64 0]) (by simp [results, Tryd.results63, go_sem]) rfl ⟨by rw [HG.out], ?_⟩
    exact (Below.refl _ _).alloc (Nat.le_refl _) _

/-- The number, if it is an int64. -/
def fit (x : Int) : Option Int := if -9223372036854775808 ≤ x ∧ x ≤ 9223372036854775807 then some x else none
def signed (neg : Bool) (V : Nat) : Int := if neg = true then -(V : Int) else (V : Int)
def fitV (o : Option Int) : Value := .tuple #[.int .i64 (o.getD 0), .bool o.isSome]
theorem dig_top {V : Nat} (hV : V < Big.P 5) : (Big.dig V 2 = 0 ∧ Big.dig V 3 = 0 ∧ Big.dig V 4 = 0) ↔ V < 18446744073709551616 := by
  have hV' : V < 1461501637330902918203684832716283019655932542976 := hV
  have e2 : Big.dig V 2 = V / 18446744073709551616 % 4294967296 := rfl
  have e3 : Big.dig V 3 = V / 79228162514264337593543950336 % 4294967296 := rfl
  have e4 : Big.dig V 4 = V / 340282366920938463463374607431768211456 % 4294967296 := rfl
  rw [e2, e3, e4]
  omega
theorem dig_both {V : Nat} (hV : V < 18446744073709551616) : Big.dig V 1 * 4294967296 + Big.dig V 0 = V := by
  have e0 : Big.dig V 0 = V / 1 % 4294967296 := rfl
  have e1 : Big.dig V 1 = V / 4294967296 % 4294967296 := rfl
  rw [e0, e1]
  omega
set_option maxHeartbeats 3200000 in
theorem told_any (neg : Bool) (V : Nat) (w : World) (hV : V < Big.P 5) : Calls Tryd.prog 83 #[.agg (G6 neg V)] w fun e w' => e = .returned (fitV (fit (signed neg V))) ∧ Below w.heap.size w w' := by
  have htop := dig_top hV
  have l0 := Big.dig_lt V 0
  have l1 := Big.dig_lt V 1
  rw [show Big.M = 4294967296 from rfl] at l0 l1
  obtain ⟨o, ho⟩ : ∃ o, o = fit (signed neg V) := ⟨_, rfl⟩
  rw [← ho]
  unfold fit signed at ho
  have HO := hide ho
  have hbe := (Below.refl w.heap.size w).alloc (Nat.le_refl _) (.cells (G6 neg V) 51)
  have HBE := hide hbe
  clear ho hbe
  unfold G6 at HBE ⊢
  by_cases hs : V < 18446744073709551616
  · obtain ⟨h2, h3, h4⟩ := htop.2 hs
    have hb := dig_both hs
    rw [h2, h3, h4] at HBE ⊢
    obtain ⟨x, ex⟩ : ∃ x, x = Big.dig V 0 := ⟨_, rfl⟩
    obtain ⟨y, ey⟩ : ∃ x, x = Big.dig V 1 := ⟨_, rfl⟩
    rw [← ex] at l0 hb HBE ⊢
    rw [← ey] at l1 hb HBE ⊢
    have hbI : (y : Int) * 4294967296 + (x : Int) = (V : Int) := by omega
    have HBI := hide hbI
    clear ex ey htop h2 h3 h4 hb hbI
    have s1 : IntKind.u64.wrap ((y : Int) * 4294967296) = (y : Int) * 4294967296 := by rw [IntKind.wrap_u64]; omega
    have s2 : IntKind.u64.wrap ((y : Int) * 4294967296 + (x : Int)) = (V : Int) := by rw [IntKind.wrap_u64]; have := HBI.out; omega
    by_cases hq : V < 9223372036854775808
    · have t1 : decide ((V : Int) < 9223372036854775808) = true := by simp; omega
      have s3 : IntKind.i64.wrap (V : Int) = (V : Int) := IntWalk.i64_in _ (by omega)
      have s4 : IntKind.i64.wrap (-(V : Int)) = -(V : Int) := IntWalk.i64_in _ (by omega)
      cases neg with
      | true =>
        have HF : Hid (o = some (-(V : Int))) := by
          show _ = _
          rw [HO.out, if_pos rfl, if_pos (by omega)]
        go_enter Tryd.func83, Tryd.ntmps83
        go_wp2_with fail
        go_ret2
        exact ⟨by rw [HF.out]; rfl, HBE.out⟩
      | false =>
        have HF : Hid (o = some (V : Int)) := by
          show _ = _
          rw [HO.out, if_neg Bool.false_ne_true, if_pos (by omega)]
        go_enter Tryd.func83, Tryd.ntmps83
        go_wp2_with fail
        go_ret2
        exact ⟨by rw [HF.out]; rfl, HBE.out⟩
    · have t1 : decide ((V : Int) < 9223372036854775808) = false := by simp; omega
      by_cases he : V = 9223372036854775808
      · have t2 : ((V : Int) == 9223372036854775808) = true := by simp; omega
        cases neg with
        | true =>
          have HF : Hid (o = some (-9223372036854775808)) := by
            show _ = _
            have e : (V : Int) = 9223372036854775808 := by omega
            rw [HO.out, if_pos rfl, if_pos (by omega), e]
          clear he
          go_enter Tryd.func83, Tryd.ntmps83
          go_wp2_with fail
          go_ret2
          exact ⟨by rw [HF.out]; rfl, HBE.out⟩
        | false =>
          have HF : Hid (o = none) := by
            show _ = _
            rw [HO.out, if_neg Bool.false_ne_true, if_neg (by omega)]
          clear he
          go_enter Tryd.func83, Tryd.ntmps83
          go_wp2_with fail
          go_ret2
          exact ⟨by rw [HF.out]; rfl, HBE.out⟩
      · have t2 : ((V : Int) == 9223372036854775808) = false := by simp; omega
        have HF : Hid (o = none) := by
          show _ = _
          rw [HO.out]
          split
          · rw [if_neg (by omega)]
          · rw [if_neg (by omega)]
        clear he
        go_enter Tryd.func83, Tryd.ntmps83
        go_wp2_with fail
        go_ret2
        exact ⟨by rw [HF.out]; rfl, HBE.out⟩
  · have HF : Hid (o = none) := by
      show _ = _
      rw [HO.out]
      split
      · rw [if_neg (by omega)]
      · rw [if_neg (by omega)]
    have hno : ¬ (Big.dig V 2 = 0 ∧ Big.dig V 3 = 0 ∧ Big.dig V 4 = 0) := fun h => hs (htop.1 h)
    obtain ⟨x2, e2⟩ : ∃ x, x = Big.dig V 2 := ⟨_, rfl⟩
    obtain ⟨x3, e3⟩ : ∃ x, x = Big.dig V 3 := ⟨_, rfl⟩
    obtain ⟨x4, e4⟩ : ∃ x, x = Big.dig V 4 := ⟨_, rfl⟩
    rw [← e2, ← e3, ← e4] at hno HBE ⊢
    clear e2 e3 e4 htop l0 l1
    by_cases h2 : x2 = 0
    · have t2 : ((x2 : Int) != 0) = false := by simp; omega
      by_cases h3 : x3 = 0
      · have t3 : ((x3 : Int) != 0) = false := by simp; omega
        have t4 : ((x4 : Int) != 0) = true := by simp; omega
        clear h2 h3 hno
        go_enter Tryd.func83, Tryd.ntmps83
        go_wp2_with fail
        go_ret2
        exact ⟨by rw [HF.out]; rfl, HBE.out⟩
      · have t3 : ((x3 : Int) != 0) = true := by simp; omega
        clear h2 h3 hno
        go_enter Tryd.func83, Tryd.ntmps83
        go_wp2_with fail
        go_ret2
        exact ⟨by rw [HF.out]; rfl, HBE.out⟩
    · have t2 : ((x2 : Int) != 0) = true := by simp; omega
      clear h2 hno
      go_enter Tryd.func83, Tryd.ntmps83
      go_wp2_with fail
      go_ret2
      exact ⟨by rw [HF.out]; rfl, HBE.out⟩

/-- The sign of a whole number. -/
def signOf (neg : Bool) (V : Nat) : Int := if V = 0 then 0 else if neg = true then -1 else 1
theorem info64 : (Tryd.prog.info? 48).isSome = true := by kernel_rfl
theorem eqGuard5 : Tryd.prog.eqGuardType Tryd.prog.depth 49 = false := by kernel_rfl
theorem cells64 : Tryd.prog.cellsOf 48 = 1 := by kernel_rfl
theorem part5 (w : World) (f : Nat → Nat) (k : Nat) (h : k < 5) : (part 48 (arr5 f) (k * 1)).run Tryd.prog w = .ok (.int .u64 ((f k : Nat) : Int)) w := by
  simp only [part, Sem.run_bind, isAgg, run_underlying Tryd.underlying48, Result.andThen_ok, Sem.run_pure]
  simp [arr5_at f k h]
theorem equal64 (w : World) (d a b : Nat) : (Op.equalIn (d + 1) 48 (.int .u64 (a : Int)) (.int .u64 (b : Int))).run Tryd.prog w = .ok (decide (a = b)) w := by
  rw [run_equalIn_int w d 48 .u64 .u64 _ _ Tryd.underlying48]
  congr 1
  rw [Bool.eq_iff_iff]
  simp
  omega
theorem items5 (w : World) (d : Nat) (f g : Nat → Nat) : ∀ is : List Nat, (∀ i ∈ is, i < 5) → (Op.eqItems (d + 1) 48 1 (arr5 f) (arr5 g) is).run Tryd.prog w = .ok (is.all fun k => decide (f k = g k)) w := by
  intro is
  induction is with
  | nil => intro _; rfl
  | cons i is ih =>
    intro h
    simp only [Op.eqItems, Sem.run_bind, part5 w f i (h i (by simp)), part5 w g i (h i (by simp)), equal64, Result.andThen_ok, List.all_cons]
    cases decide (f i = g i)
    · rfl
    · exact ih fun j hj => h j (by simp [hj])
theorem eql5 (f g : Nat → Nat) (w : World) : (binOp .eql 49 (.agg (arr5 f)) (.agg (arr5 g))).run Tryd.prog w = .ok (.bool (decide (f 0 = g 0) && (decide (f 1 = g 1) && (decide (f 2 = g 2) && (decide (f 3 = g 3) && decide (f 4 = g 4)))))) w := by
  obtain ⟨i, hi⟩ := Option.isSome_iff_exists.1 info64
  have h := run_equalIn_array (P := Tryd.prog) w 9999 (arr5 f) (arr5 g) Tryd.underlying49 hi
  rw [cells64, items5 w 9998 f g (List.range 5) (fun i hi => List.mem_range.1 hi)] at h
  rw [run_eql_struct, h, Result.andThen_ok]
  simp [List.range_succ]
theorem equal5 (f g : Nat → Nat) (w : World) : (Op.equalIn 10000 49 (.agg (arr5 f)) (.agg (arr5 g))).run Tryd.prog w = .ok (decide (f 0 = g 0) && (decide (f 1 = g 1) && (decide (f 2 = g 2) && (decide (f 3 = g 3) && decide (f 4 = g 4))))) w := by
  obtain ⟨i, hi⟩ := Option.isSome_iff_exists.1 info64
  have h := run_equalIn_array (P := Tryd.prog) w 9999 (arr5 f) (arr5 g) Tryd.underlying49 hi
  rw [cells64, items5 w 9998 f g (List.range 5) (fun i hi => List.mem_range.1 hi)] at h
  rw [h]
  simp [List.range_succ]
theorem guard5 (w : World) (op : BinOp) (x y : Operand) (xs ys : Array Value) : (eqGuard op 49 x y (.agg xs) (.agg ys)).run Tryd.prog w = .ok () w := run_eqGuard_agg w op _ x y xs ys eqGuard5
theorem dig_none {V : Nat} (hV : V < Big.P 5) : (decide (Big.dig V 0 = 0) && (decide (Big.dig V 1 = 0) && (decide (Big.dig V 2 = 0) && (decide (Big.dig V 3 = 0) && decide (Big.dig V 4 = 0))))) = decide (V = 0) := by
  rw [Bool.eq_iff_iff]
  simp only [Bool.and_eq_true, decide_eq_true_eq]
  constructor
  · rintro ⟨h0, h1, h2, h3, h4⟩
    refine Big.dig_ext hV (Big.P_pos 5) fun i hi => ?_
    rw [Big.dig_zero]
    match i, hi with
    | 0, _ => exact h0
    | 1, _ => exact h1
    | 2, _ => exact h2
    | 3, _ => exact h3
    | 4, _ => exact h4
  · rintro rfl
    simp [Big.dig_zero]
set_option maxRecDepth 20000 in
set_option maxHeartbeats 1600000 in
theorem sign_any (neg : Bool) (V : Nat) (w : World) (hV : V < Big.P 5) : Calls Tryd.prog 42 #[.agg (G6 neg V)] w fun e w' => e = .returned (.int .i64 (signOf neg V)) ∧ Below w.heap.size w w' := by
  have HBE := hide ((Below.refl w.heap.size w).alloc (Nat.le_refl _) (.cells (G6 neg V) 51))
  obtain ⟨r, hr⟩ : ∃ r, r = signOf neg V := ⟨_, rfl⟩
  rw [← hr]
  unfold signOf at hr
  have HR := hide hr
  have he : ∀ w : World, (binOp .eql 49 (.agg (arr5 (Big.dig V))) (.agg #[.int .u64 0, .int .u64 0, .int .u64 0, .int .u64 0, .int .u64 0])).run Tryd.prog w = .ok (.bool (decide (V = 0))) w := fun w => by
    have := eql5 (Big.dig V) (fun _ => 0) w
    rw [dig_none hV] at this
    exact this
  have u2 := guard5
  unfold G6 at HBE ⊢
  unfold arr5 at he
  clear hr
  by_cases h0 : V = 0
  · rw [decide_eq_true h0] at he
    have HF := hide (HR.out.trans (if_pos h0))
    clear h0 hV
    go_enter Tryd.func42, Tryd.ntmps42
    go_wp2_with fail
    go_ret
    exact ⟨by rw [HF.out]; rfl, HBE.out⟩
  · rw [decide_eq_false h0] at he
    have HF := hide (HR.out.trans (if_neg h0))
    clear h0 hV
    cases neg with
    | true =>
      have HF2 := hide (HF.out.trans (if_pos rfl))
      clear HF
      go_enter Tryd.func42, Tryd.ntmps42
      go_wp2_with fail
      go_ret
      exact ⟨by rw [HF2.out]; rfl, HBE.out⟩
    | false =>
      have HF2 := hide (HF.out.trans (if_neg Bool.false_ne_true))
      clear HF
      go_enter Tryd.func42, Tryd.ntmps42
      go_wp2_with fail
      go_ret
      exact ⟨by rw [HF2.out]; rfl, HBE.out⟩
end Go.Proofs.YthmlfbbbcmmhdaaDoor
