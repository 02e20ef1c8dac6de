/-
  The walks of the laws of layer 13: awake, may, VerkeyOrder. Conditions: slices read as lists of bytes.
-/
import Derived.Test.YtlkeibpaleiemaaVerRef
namespace Go.Proofs.Ytlkeibpaleiemaa
open Go.RowKit

theorem grow1 {B : Nat} {w a b : World} {o : Obj} (h : Below B w a) (hB : B ≤ a.heap.size) (hb : Below (a.alloc o).heap.size (a.alloc o) b) : Below B w b := (h.alloc hB o).trans (hb.mono (by simp; omega))
theorem grow0 {B : Nat} {w a b : World} (h : Below B w a) (hB : B ≤ a.heap.size) (hb : Below a.heap.size a b) : Below B w b := h.trans (hb.mono hB)

/-- Part of what has its parts. -/
theorem part_some (A : Option Addr) (n c : Nat) (l k : List UInt8) (m : Nat) (w : World) (hl : Rb w w.heap.size A n l) (hn : n ≤ 35184372088832) (hp : vpart l = some (k, m)) :
    Calls Try.prog 15 #[.slice A n c] w fun e w' => ∃ v, e = .returned (.tuple #[v, .int .i64 (m : Nat), .bool true]) ∧ w'.ownsRow w.heap.size 5 1 v k.length (k.map B8) ∧ Below w.heap.size w w' := by
  refine (part_any A n c l w hl hn).mono fun e w' h => ?_
  rcases h with ⟨k', m', v, h1, h2, h3, h4⟩ | ⟨h1, _⟩
  · rw [hp] at h1
    injection h1 with h1
    injection h1 with e1 e2
    subst e1 e2
    exact ⟨v, h2, h3, h4⟩
  · rw [hp] at h1
    cases h1
theorem part_none (A : Option Addr) (n c : Nat) (l : List UInt8) (w : World) (hl : Rb w w.heap.size A n l) (hn : n ≤ 35184372088832) (hp : vpart l = none) :
    Calls Try.prog 15 #[.slice A n c] w fun e w' => e = .returned (.tuple #[.slice none 0 0, .int .i64 0, .bool false]) ∧ Below w.heap.size w w' := by
  refine (part_any A n c l w hl hn).mono fun e w' h => ?_
  rcases h with ⟨k', m', v, h1, _⟩ | ⟨_, h2, h3⟩
  · rw [hp] at h1
    cases h1
  · exact ⟨h2, h3⟩

set_option maxHeartbeats 400000 in
theorem awake_any (w : World) : Calls Try.prog 8 #[] w fun e w' => e = .returned (.bool true) ∧ Below w.heap.size w w' := by
  have H1 := hide (Rb.lit w 5 [97, 0])
  have hj : vjoin [97, 0] 5 = [97, 0, 255, 0, 0, 255, 255, 255, 255, 255, 255, 255, 250] := by decide +kernel
  have hp : vpart [97, 0, 255, 0, 0, 255, 255, 255, 255, 255, 255, 255, 250] = some ([97, 0], 5) := by decide +kernel
  have HJ := hide hj
  have HP := hide hp
  clear hj hp
  go_enter Try.func8, Try.ntmps8
  go_wp2_with fail
  refine (join_yes _ 2 2 [97, 0] 5 _ H1.out (by omega) (by omega) (by omega)).mono ?_
  rintro e w1 ⟨v1, rfl, hown1, hb1⟩
  rw [HJ.out] at hown1
  have HO1 := hide hown1
  have HB1 : Hid (Below w.heap.size w w1) := ((Below.refl _ _).alloc (Nat.le_refl _) _).trans (hb1.mono (by simp))
  clear hown1 hb1
  obtain ⟨A1, c1, rfl, _⟩ := own_form HO1.out
  go_wp2_with fail
  refine (part_some A1 _ c1 _ _ _ _ (Rb.own HO1.out) (by decide) HP.out).mono ?_
  rintro e w2 ⟨v2, rfl, hown2, hb2⟩
  have HO2 := hide hown2
  have HB2 := hide hb2
  have HO12 := hide (own_below HO1.out hb2)
  clear hown2 hb2
  obtain ⟨A2, c2, rfl, _⟩ := own_form HO2.out
  go_wp2_with fail
  refine (sameBytes_any A1 _ _ c1 13 13 _ [97, 0, 255, 0, 0, 255, 255, 255, 255, 255, 255, 255, 250] _ _ _ (Rb.own (HO12.out.alloc _)) (Rb.lit w2 5 _)).mono ?_
  rintro e w3 ⟨rfl, rfl⟩
  rw [show (([97, 0, 255, 0, 0, 255, 255, 255, 255, 255, 255, 255, 250] : List UInt8) == [97, 0, 255, 0, 0, 255, 255, 255, 255, 255, 255, 255, 250]) = true by decide]
  go_wp2_with fail
  refine (sameBytes_any A2 _ _ c2 2 2 _ [97, 0] _ _ _ (Rb.own ((HO2.out.alloc _).alloc _)) (Rb.litAt (w2.alloc _) 5 _ (0, 0) _ (by simp))).mono ?_
  rintro e w3 ⟨rfl, rfl⟩
  rw [show (([97, 0] : List UInt8) == [97, 0]) = true by decide]
  go_wp2
  go_ret
  refine ⟨rfl, ?_⟩
  have := HB1.out.size
  have := HB2.out.size
  exact ((HB1.out.trans (HB2.out.mono (by omega))).alloc (by omega) _).alloc (by simp; omega) _

theorem may_any (A : Option Addr) (n c : Nat) (w : World) : Calls Try.prog 7 #[.slice A n c] w fun e w' => e = .returned (.bool (decide (0 < n) && decide (n ≤ 128))) ∧ w = w' := by
  by_cases h : 0 < n
  · have h1 : decide ((0 : Int) < n) = true := by simp; omega
    go_enter Try.func7, Try.ntmps7
    go_wp2
    go_ret
    refine ⟨?_, rfl⟩
    rw [decide_eq_true h, Bool.true_and]
    exact congrArg (fun b => Ending.returned (.bool b)) (by rw [Bool.eq_iff_iff]; simp; omega)
  · obtain rfl : n = 0 := by omega
    go_enter Try.func7, Try.ntmps7
    go_wp2
    go_ret
    exact ⟨rfl, rfl⟩
end Go.Proofs.Ytlkeibpaleiemaa
