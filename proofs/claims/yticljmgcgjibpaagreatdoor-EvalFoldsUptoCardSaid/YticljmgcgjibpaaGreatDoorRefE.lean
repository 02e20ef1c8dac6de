/-
  The walks of chanceryref17: number, fixed, answer, asked. Conditions: numbers within 64 bits.
-/
import Derived.Test.YticljmgcgjibpaaGreatDoorBigD
import Derived.Test.YticljmgcgjibpaaGreatDoorFlow
import Derived.Test.YticljmgcgjibpaaGreatDoorOrdV
import Derived.Test.YticljmgcgjibpaaGreatDoorValMath
namespace Go.Proofs.YticljmgcgjibpaaGreatDoor
open Go.RowKit

/-- A value as the program has it. -/
def valV (v : Cell.Val) : Value := .agg #[.int .u8 (v.k.toNat : Int), .int .i64 v.n, .string v.s]
def ansV (p : Cell.Val × Nat) : Value := .tuple #[valV p.1, .int .i64 ((p.2 : Nat) : Int)]
theorem fit_eq (x : Int) : fit x = Val.fit x := rfl
theorem signed_eq (n : Bool) (V : Nat) : signed n V = Val.signed n V := rfl

theorem rnumber_any (k : UInt8) (n : Int) (s : ByteArray) (w : World) :
    Calls Tryz.prog 69 #[.agg #[.int .u8 (k.toNat : Int), .int .i64 n, .string s]] w fun e w' => e = .returned (.bool (Val.numB k)) ∧ Below w.heap.size w w' := by
  have HBE := hide ((Below.refl w.heap.size w).alloc (Nat.le_refl _) (.cells #[.int .u8 (k.toNat : Int), .int .i64 n, .string s] 25))
  obtain ⟨r, hr⟩ : ∃ r, r = Val.numB k := ⟨_, rfl⟩
  rw [← hr]
  unfold Val.numB at hr
  by_cases h2 : k.toNat = 2
  · have t2 : ((k.toNat : Int) == 2) = true := by simp; omega
    rw [decide_eq_true h2, Bool.true_or] at hr
    have HR := hide hr
    clear hr h2
    go_enter Tryz.func69, Tryz.ntmps69
    go_wp2_with fail
    go_ret
    exact ⟨by rw [HR.out]; rfl, HBE.out⟩
  · have t2 : ((k.toNat : Int) == 2) = false := by simp; omega
    rw [decide_eq_false h2, Bool.false_or] at hr
    obtain ⟨b, hb⟩ : ∃ b, b = ((k.toNat : Int) == 3) := ⟨_, rfl⟩
    have HB := hide hb
    have HR : Hid (r = ((k.toNat : Int) == 3)) := by
      show _ = _
      rw [hr, Bool.eq_iff_iff]
      simp
      omega
    clear hr h2 hb
    go_enter Tryz.func69, Tryz.ntmps69
    go_wp2_with fail
    go_ret
    exact ⟨by rw [HR.out]; rfl, HBE.out⟩

theorem told_at (neg : Bool) (V : Nat) (w : World) (hV : V < Big.P 5) : Calls Tryz.prog 87 #[.agg #[.bool neg, .int .u64 ((Big.dig V 0 : Nat) : Int), .int .u64 ((Big.dig V 1 : Nat) : Int), .int .u64 ((Big.dig V 2 : Nat) : Int), .int .u64 ((Big.dig V 3 : Nat) : Int), .int .u64 ((Big.dig V 4 : Nat) : Int)]] w fun e w' => e = .returned (fitV (fit (signed neg V))) ∧ Below w.heap.size w w' := told_any neg V w hV
theorem sign_at (neg : Bool) (V : Nat) (w : World) (hV : V < Big.P 5) : Calls Tryz.prog 70 #[.agg #[.bool neg, .int .u64 ((Big.dig V 0 : Nat) : Int), .int .u64 ((Big.dig V 1 : Nat) : Int), .int .u64 ((Big.dig V 2 : Nat) : Int), .int .u64 ((Big.dig V 3 : Nat) : Int), .int .u64 ((Big.dig V 4 : Nat) : Int)]] w fun e w' => e = .returned (.int .i64 (signOf neg V)) ∧ Below w.heap.size w w' := sign_any neg V w hV
theorem P5 : Big.P 5 = 1461501637330902918203684832716283019655932542976 := rfl
/-- The three cells of a value's block. -/
theorem Blk.c3 {w : World} {g : Nat} {t : TypeId} {u0 u1 u2 : Value} (h : Blk w g t #[u0, u1, u2]) : w.cell? ⟨g, 0, none⟩ = some u0 ∧ w.cell? ⟨g, 1, none⟩ = some u1 ∧ w.cell? ⟨g, 2, none⟩ = some u2 := ⟨h.cell 0, h.cell 1, h.cell 2⟩
theorem Blk.f3 {w : World} {g : Nat} {t : TypeId} {cs : Array Value} (h : Blk w g t cs) : w.frozen? ⟨g, 0, none⟩ = false ∧ w.frozen? ⟨g, 1, none⟩ = false ∧ w.frozen? ⟨g, 2, none⟩ = false := ⟨h.frozen 0, h.frozen 1, h.frozen 2⟩
theorem below_three {B g : Nat} {a w : World} (h : Below B a w) (hg : B ≤ g) (u0 u1 u2 : Value) : Below B a (((w.setCell ⟨g, 0, none⟩ u0).setCell ⟨g, 1, none⟩ u1).setCell ⟨g, 2, none⟩ u2) := ((h.setCell hg _).setCell hg _).setCell hg _

set_option maxRecDepth 8000 in
set_option maxHeartbeats 1600000 in
theorem answer_any (k : UInt8) (ki : Int) (hk : ki = (k.toNat : Int)) (neg : Bool) (V : Nat) (w : World) (hV : V < Big.P 5) :
    Calls Tryz.prog 63 #[.int .u8 ki, .agg (G6 neg V)] w fun e w' => e = .returned (ansV (Val.answer k (Val.signed neg V))) ∧ Below w.heap.size w w' := by
  subst hk
  obtain ⟨p, hp⟩ : ∃ p, p = Val.answer k (Val.signed neg V) := ⟨_, rfl⟩
  rw [← hp]
  unfold Val.answer at hp
  have HP := hide hp
  clear hp
  go_enter Tryz.func63, Tryz.ntmps63
  unfold G6
  go_wp2_with fail
  obtain ⟨w0, hw0⟩ : ∃ x, x = (w.alloc (.cells #[.bool neg, .int .u64 ((Big.dig V 0 : Nat) : Int), .int .u64 ((Big.dig V 1 : Nat) : Int), .int .u64 ((Big.dig V 2 : Nat) : Int), .int .u64 ((Big.dig V 3 : Nat) : Int), .int .u64 ((Big.dig V 4 : Nat) : Int)] 82)).alloc (.cells #[.int .u8 0, .int .i64 0, .string ⟨#[]⟩] 25) := ⟨_, rfl⟩
  rw [← hw0]
  have HK : Hid (Blk w0 (w.heap.size + 1) 25 #[.int .u8 0, .int .i64 0, .string ⟨#[]⟩]) := by
    rw [hw0]
    have := Blk.new (w.alloc (.cells #[.bool neg, .int .u64 ((Big.dig V 0 : Nat) : Int), .int .u64 ((Big.dig V 1 : Nat) : Int), .int .u64 ((Big.dig V 2 : Nat) : Int), .int .u64 ((Big.dig V 3 : Nat) : Int), .int .u64 ((Big.dig V 4 : Nat) : Int)] 82)) 25 #[.int .u8 0, .int .i64 0, .string ⟨#[]⟩]
    show Blk _ _ _ _
    simpa using this
  have HB : Hid (Below w.heap.size w w0) := by rw [hw0]; exact ((Below.refl _ _).alloc (Nat.le_refl _) _).alloc (by simp) _
  clear hw0
  with_reducible refine (told_at neg V w0 hV).mono ?_
  rintro e w1 ⟨rfl, hb1⟩
  have hl0 := HK.out.lt
  have HK1 := hide (HK.out.below hb1 hl0)
  have HB1 := hide (HB.out.trans (hb1.mono (by omega)))
  clear hb1 hV HK HB
  obtain ⟨r0, r1, r2⟩ := HK1.out.c3
  obtain ⟨f0, f1, f2⟩ := HK1.out.f3
  have hl1 := HK1.out.lt
  obtain ⟨o, ho⟩ : ∃ o, o = fit (signed neg V) := ⟨_, rfl⟩
  have HP2 := HP.out
  rw [← signed_eq, ← fit_eq, ← ho] at HP2
  rw [← ho]
  have HP3 := hide HP2
  clear ho HP HP2
  unfold fitV
  cases o with
  | none =>
    simp only [Option.getD_none, Option.isSome_none]
    go_wp2_with fail
    refine bodyPost_ret (v := ansV p) (by rw [HP3.out]; simp [results, Tryz.results63, go_sem, r0, r1, r2, ansV, valV, Val.vz]) rfl ⟨rfl, below_three HB1.out (by omega) _ _ _⟩
  | some x =>
    simp only [Option.getD_some, Option.isSome_some]
    go_wp2_with fail
    refine bodyPost_ret (v := ansV p) (by rw [HP3.out]; simp [results, Tryz.results63, go_sem, r0, r1, r2, ansV, valV]) rfl ⟨rfl, below_three HB1.out (by omega) _ _ _⟩
end Go.Proofs.YticljmgcgjibpaaGreatDoor
