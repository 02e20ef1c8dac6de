/-
  The walks of strings.Compare, cmp.Compare, cmp.Or and value.Order (chapter 17's seat). Conditions: none.
-/
import Derived.Test.YticljmgcgjibpaaGreatDoorRight
import Derived.Test.YticljmgcgjibpaaGreatDoorVerMath
import Derived.Lib.Bytealg
import Derived.Laws.Externs
import Derived.StillTailTactics
namespace Go.Proofs.YticljmgcgjibpaaGreatDoor
open Go.RowKit

theorem cmpB_eq : ∀ l m, Lib.compareBytes l m = cmpB l m := by
  intro l
  induction l with
  | nil => intro m; cases m <;> rfl
  | cons c l ih => intro m; cases m with
    | nil => rfl
    | cons d m => simp only [Lib.compareBytes, cmpB, ih]

theorem run_cmpstring (s t : ByteArray) (w : World) :
    (callFunc 104 #[.string s, .string t]).run Tryz.prog w = .ok (.value (.int .i64 (cmpB s.data.toList t.data.toList))) w := by
  rw [run_callFunc_extern Tryz.func104 (by kernel_rfl) (by kernel_rfl) (by kernel_rfl) (e := Extern.BytealgCompare.compare) (by kernel_rfl)]
  rw [Lib.run_compareString, cmpB_eq]
  rfl

theorem scompare_any (s t : ByteArray) (w : World) :
    Calls Tryz.prog 95 #[.string s, .string t] w fun e w' => e = .returned (.int .i64 (cmpB s.data.toList t.data.toList)) ∧ w' = w := by
  have hr := run_cmpstring s t
  go_enter Tryz.func95, Tryz.ntmps95
  go_wp2_with fail
  refine (show Calls Tryz.prog 102 #[.string s, .string t] w fun e w' => e = .returned (.int .i64 (cmpB s.data.toList t.data.toList)) ∧ w = w' from ?_).mono ?_
  · go_enter Tryz.func102, Tryz.ntmps102
    go_wp2
    go_ret
    exact ⟨rfl, rfl⟩
  rintro e w' ⟨rfl, rfl⟩
  go_wp2_with fail
  go_ret
  exact ⟨rfl, rfl⟩
/-- Two numbers in order. -/
def cmpI (a b : Int) : Int := if a < b then -1 else if b < a then 1 else 0
theorem cmpI_lt {a b : Int} (h : a < b) : cmpI a b = -1 := by unfold cmpI; rw [if_pos h]
theorem cmpI_gt {a b : Int} (h : b < a) : cmpI a b = 1 := by unfold cmpI; rw [if_neg (by omega), if_pos h]
theorem cmpI_eq (a : Int) : cmpI a a = 0 := by unfold cmpI; rw [if_neg (by omega), if_neg (by omega)]
theorem nanK (a : Int) (w : World) : Calls Tryz.prog 100 #[.int .u8 a] w fun e w' => e = .returned (.bool false) ∧ w = w' := by
  have h : (a != a) = false := by simp
  go_enter Tryz.func100, Tryz.ntmps100
  go_wp2
  go_ret
  exact ⟨rfl, rfl⟩
theorem nanI (a : Int) (w : World) : Calls Tryz.prog 101 #[.int .i64 a] w fun e w' => e = .returned (.bool false) ∧ w = w' := by
  have h : (a != a) = false := by simp
  go_enter Tryz.func101, Tryz.ntmps101
  go_wp2
  go_ret
  exact ⟨rfl, rfl⟩
theorem ccompareK (a b : Int) (w : World) : Calls Tryz.prog 93 #[.int .u8 a, .int .u8 b] w fun e w' => e = .returned (.int .i64 (cmpI a b)) ∧ w' = w := by
  rcases Int.lt_trichotomy a b with h | h | h
  · have e := hide (cmpI_lt h)
    go_enter Tryz.func93, Tryz.ntmps93
    go_wp2_with (first | (with_reducible refine (nanK a _).mono ?_; rintro e w' ⟨rfl, rfl⟩) | (with_reducible refine (nanK b _).mono ?_; rintro e w' ⟨rfl, rfl⟩))
    go_ret
    exact ⟨by rw [e.out]; rfl, rfl⟩
  · subst h
    have e := hide (cmpI_eq a)
    have h : ¬ a < a := by omega
    go_enter Tryz.func93, Tryz.ntmps93
    go_wp2_with (with_reducible refine (nanK a _).mono ?_; rintro e w' ⟨rfl, rfl⟩)
    go_ret
    exact ⟨by rw [e.out]; rfl, rfl⟩
  · have e := hide (cmpI_gt h)
    have h' : ¬ a < b := by omega
    go_enter Tryz.func93, Tryz.ntmps93
    go_wp2_with (first | (with_reducible refine (nanK a _).mono ?_; rintro e w' ⟨rfl, rfl⟩) | (with_reducible refine (nanK b _).mono ?_; rintro e w' ⟨rfl, rfl⟩))
    go_ret
    exact ⟨by rw [e.out]; rfl, rfl⟩
theorem ccompareI (a b : Int) (w : World) : Calls Tryz.prog 94 #[.int .i64 a, .int .i64 b] w fun e w' => e = .returned (.int .i64 (cmpI a b)) ∧ w' = w := by
  rcases Int.lt_trichotomy a b with h | h | h
  · have e := hide (cmpI_lt h)
    go_enter Tryz.func94, Tryz.ntmps94
    go_wp2_with (first | (with_reducible refine (nanI a _).mono ?_; rintro e w' ⟨rfl, rfl⟩) | (with_reducible refine (nanI b _).mono ?_; rintro e w' ⟨rfl, rfl⟩))
    go_ret
    exact ⟨by rw [e.out]; rfl, rfl⟩
  · subst h
    have e := hide (cmpI_eq a)
    have h : ¬ a < a := by omega
    go_enter Tryz.func94, Tryz.ntmps94
    go_wp2_with (with_reducible refine (nanI a _).mono ?_; rintro e w' ⟨rfl, rfl⟩)
    go_ret
    exact ⟨by rw [e.out]; rfl, rfl⟩
  · have e := hide (cmpI_gt h)
    have h' : ¬ a < b := by omega
    go_enter Tryz.func94, Tryz.ntmps94
    go_wp2_with (first | (with_reducible refine (nanI a _).mono ?_; rintro e w' ⟨rfl, rfl⟩) | (with_reducible refine (nanI b _).mono ?_; rintro e w' ⟨rfl, rfl⟩))
    go_ret
    exact ⟨by rw [e.out]; rfl, rfl⟩

/-- The first that is not 0. -/
def or3 (a b c : Int) : Int := if a ≠ 0 then a else if b ≠ 0 then b else c
def OrTo (a b c : Int) (k : Nat) : Prop := k = 0 ∨ (k = 1 ∧ a = 0) ∨ (k = 2 ∧ a = 0 ∧ b = 0) ∨ (k = 3 ∧ a = 0 ∧ b = 0 ∧ c = 0)
set_option maxHeartbeats 400000 in
theorem or_any (g : Nat) (a b c : Int) (w : World) (h0 : w.cell? ⟨g, 0, none⟩ = some (.int .i64 a)) (h1 : w.cell? ⟨g, 1, none⟩ = some (.int .i64 b)) (h2 : w.cell? ⟨g, 2, none⟩ = some (.int .i64 c)) :
    Calls Tryz.prog 92 #[.slice (some ⟨g, 0, none⟩) 3 3] w fun e w' => e = .returned (.int .i64 (or3 a b c)) ∧ w = w' := by
  go_enter Tryz.func92, Tryz.ntmps92
  go_wp2_with fail
  go_loop [8] (fun i => ∃ k : Nat, i = .int .i64 (k : Nat) ∧ OrTo a b c k) (fun i => 3 - (intOf i).toNat)
  case atStart => exact ⟨0, rfl, Or.inl rfl⟩
  case round =>
    obtain ⟨k, rfl, hr⟩ := hrel
    rcases hr with rfl | ⟨rfl, rfl⟩ | ⟨rfl, rfl, rfl⟩ | ⟨rfl, rfl, rfl, rfl⟩
    · by_cases ha : a = 0
      · subst ha
        go_wp2_with fail
        exact ⟨⟨1, rfl, Or.inr (Or.inl ⟨rfl, rfl⟩)⟩, by simp [intOf]⟩
      · have HF : Hid (or3 a b c = a) := by show _ = _; unfold or3; rw [if_pos ha]
        have t : (a != 0) = true := by simpa using ha
        go_wp2_with fail
        go_ret
        exact ⟨by rw [HF.out]; rfl, rfl⟩
    · by_cases hb : b = 0
      · subst hb
        go_wp2_with fail
        exact ⟨⟨2, rfl, Or.inr (Or.inr (Or.inl ⟨rfl, rfl, rfl⟩))⟩, by simp [intOf]⟩
      · have HF : Hid (or3 0 b c = b) := by show _ = _; unfold or3; rw [if_neg (by omega), if_pos hb]
        have t : (b != 0) = true := by simpa using hb
        go_wp2_with fail
        go_ret
        exact ⟨by rw [HF.out]; rfl, rfl⟩
    · by_cases hc : c = 0
      · subst hc
        go_wp2_with fail
        exact ⟨⟨3, rfl, Or.inr (Or.inr (Or.inr ⟨rfl, rfl, rfl, rfl⟩))⟩, by simp [intOf]⟩
      · have HF : Hid (or3 0 0 c = c) := by show _ = _; unfold or3; rw [if_neg (by omega), if_neg (by omega)]
        have t : (c != 0) = true := by simpa using hc
        go_wp2_with fail
        go_ret
        exact ⟨by rw [HF.out]; rfl, rfl⟩
    · have HF : Hid (or3 0 0 0 = 0) := rfl
      go_wp2_with fail
      go_ret
      exact ⟨by rw [HF.out]; rfl, rfl⟩

/-- The order of values. -/
def ordV (a b : Cell.Val) : Int := or3 (cmpI a.k.toNat b.k.toNat) (cmpI a.n b.n) (cmpB a.s.data.toList b.s.data.toList)
set_option maxRecDepth 20000 in
set_option maxHeartbeats 800000 in
theorem order_any (k : UInt8) (n : Int) (s : ByteArray) (k' : UInt8) (n' : Int) (s' : ByteArray) (w : World) :
    Calls Tryz.prog 78 #[.agg #[.int .u8 (k.toNat : Int), .int .i64 n, .string s], .agg #[.int .u8 (k'.toNat : Int), .int .i64 n', .string s']] w fun e w' => e = .returned (.int .i64 (ordV ⟨k, n, s⟩ ⟨k', n', s'⟩)) ∧ Below w.heap.size w w' := by
  obtain ⟨r, hr⟩ : ∃ r, r = ordV ⟨k, n, s⟩ ⟨k', n', s'⟩ := ⟨_, rfl⟩
  have HR := hide hr
  rw [← hr]
  clear hr
  go_enter Tryz.func78, Tryz.ntmps78
  go_wp2_with fail
  obtain ⟨w0, hw0⟩ : ∃ w0, w0 = (w.alloc (.cells #[.int .u8 (k.toNat : Int), .int .i64 n, .string s] 25)).alloc (.cells #[.int .u8 (k'.toNat : Int), .int .i64 n', .string s'] 25) := ⟨_, rfl⟩
  rw [← hw0]
  have HP0 : Blk w0 w.heap.size 25 #[.int .u8 (k.toNat : Int), .int .i64 n, .string s] := by rw [hw0]; exact (Blk.new w _ _).alloc _
  have HV0 : Blk w0 (w.heap.size + 1) 25 #[.int .u8 (k'.toNat : Int), .int .i64 n', .string s'] := by
    rw [hw0]
    have := Blk.new (w.alloc (.cells #[.int .u8 (k.toNat : Int), .int .i64 n, .string s] 25)) 25 #[.int .u8 (k'.toNat : Int), .int .i64 n', .string s']
    simpa using this
  have HB0 : Hid (Below w.heap.size w w0) := by rw [hw0]; exact ((Below.refl _ _).alloc (Nat.le_refl _) _).alloc (by simp) _
  have hz0 : w.heap.size + 2 = w0.heap.size := by rw [hw0]; simp
  clear hw0
  refine wp_region_still_tail 15 (by kernel_rfl) (by kernel_rfl) ?_
  obtain ⟨w1, hw1⟩ : ∃ x : World, x = { w0 with drawn := w0.drawn + 1 } := ⟨_, rfl⟩
  rw [← hw1]
  have d0 : w1.cell? ⟨w.heap.size, 0, none⟩ = some (.int .u8 (k.toNat : Int)) := by rw [hw1]; exact HP0.cell 0
  have d1 : w1.cell? ⟨w.heap.size, 1, none⟩ = some (.int .i64 n) := by rw [hw1]; exact HP0.cell 1
  have d2 : w1.cell? ⟨w.heap.size, 2, none⟩ = some (.string s) := by rw [hw1]; exact HP0.cell 2
  have g0 : w1.cell? ⟨w.heap.size + 1, 0, none⟩ = some (.int .u8 (k'.toNat : Int)) := by rw [hw1]; exact HV0.cell 0
  have g1 : w1.cell? ⟨w.heap.size + 1, 1, none⟩ = some (.int .i64 n') := by rw [hw1]; exact HV0.cell 1
  have g2 : w1.cell? ⟨w.heap.size + 1, 2, none⟩ = some (.string s') := by rw [hw1]; exact HV0.cell 2
  have HB1 : Hid (Below w.heap.size w w1) := by rw [hw1]; exact HB0.out.drew
  have hz1 : w.heap.size ≤ w1.heap.size := by rw [hw1]; show _ ≤ w0.heap.size; omega
  clear hw1 HP0 HV0 HB0 hz0
  simp only [List.take_succ_cons, List.take_zero, List.drop_succ_cons, List.drop_zero]
  iterate 4 still_step
  still_call (ccompareK _ _ _)
  iterate 4 still_step
  still_call (ccompareI _ _ _)
  iterate 4 still_step
  still_call (scompare_any _ _ _)
  refine wpStill_nil ?_
  go_wp2_with fail
  have HK := hide (Blk.new w1 3 #[.int .i64 (cmpI (k.toNat : Int) (k'.toNat : Int)), .int .i64 (cmpI n n'), .int .i64 (cmpB s.data.toList s'.data.toList)])
  with_reducible refine (or_any w1.heap.size (cmpI (k.toNat : Int) (k'.toNat : Int)) (cmpI n n') (cmpB s.data.toList s'.data.toList) _ (HK.out.cell 0) (HK.out.cell 1) (HK.out.cell 2)).mono ?_
  rintro e w2 ⟨rfl, rfl⟩
  go_wp2_with fail
  go_ret
  exact ⟨by rw [HR.out]; rfl, HB1.out.alloc hz1 _⟩

end Go.Proofs.YticljmgcgjibpaaGreatDoor
