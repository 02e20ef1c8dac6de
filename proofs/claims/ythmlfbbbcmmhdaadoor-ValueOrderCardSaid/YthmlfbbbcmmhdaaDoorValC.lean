/-
  The walk of value.common. Conditions: none.
-/
import Derived.Test.YthmlfbbbcmmhdaaDoorValB
namespace Go.Proofs.YthmlfbbbcmmhdaaDoor
open Go.RowKit

/-- The kind of what two values are put together to; the error. -/
def commonOf (a b : Cell.Val) : Nat × Nat := if (Val.asked a b).2 ≠ 0 ∨ (Val.asked a b).1 = true then (0, (Val.asked a b).2) else (max a.k.toNat b.k.toNat, 0)
def comV (p : Nat × Nat) : Value := .tuple #[.int .u8 ((p.1 : Nat) : Int), .int .i64 ((p.2 : Nat) : Int)]
theorem V2.alloc {w wr : World} {k : UInt8} {n : Int} {s : ByteArray} {k' : UInt8} {n' : Int} {s' : ByteArray} (h : V2 w wr k n s k' n' s') (o : Obj) : V2 w (wr.alloc o) k n s k' n' s' := h.below ((Below.refl _ _).alloc (Nat.le_refl _) o)
set_option maxRecDepth 8000 in
set_option maxHeartbeats 3200000 in
theorem common_any (k : UInt8) (n : Int) (s : ByteArray) (k' : UInt8) (n' : Int) (s' : ByteArray) (w : World) :
    Calls Tryd.prog 57 #[.agg #[.int .u8 (k.toNat : Int), .int .i64 n, .string s], .agg #[.int .u8 (k'.toNat : Int), .int .i64 n', .string s']] w fun e w' => e = .returned (comV (commonOf ⟨k, n, s⟩ ⟨k', n', s'⟩)) ∧ Below w.heap.size w w' := by
  have HN := hide (V2.new w k n s k' n' s')
  obtain ⟨p, hp⟩ : ∃ p, p = commonOf ⟨k, n, s⟩ ⟨k', n', s'⟩ := ⟨_, rfl⟩
  rw [← hp]
  unfold commonOf Val.asked Val.bothRight at hp
  have HP := hide hp
  clear hp
  go_enter Tryd.func57, Tryd.ntmps57
  go_wp2_with fail
  obtain ⟨w0, hw0⟩ : ∃ x, x = (w.alloc (.cells #[.int .u8 (k.toNat : Int), .int .i64 n, .string s] 25)).alloc (.cells #[.int .u8 (k'.toNat : Int), .int .i64 n', .string s'] 25) := ⟨_, rfl⟩
  rw [← hw0] at HN ⊢
  clear hw0
  with_reducible refine (right_any k n s w0).mono ?_
  rintro e w1 ⟨rfl, hb1⟩
  replace HN := hide (HN.out.below hb1)
  clear hb1
  obtain ⟨ra, hra⟩ : ∃ r, r = Cell.rightB ⟨k, n, s⟩ := ⟨_, rfl⟩
  obtain ⟨rb, hrb⟩ : ∃ r, r = Cell.rightB ⟨k', n', s'⟩ := ⟨_, rfl⟩
  rw [← hra, ← hrb] at HP
  rw [← hra]
  have HRB := hide hrb
  clear hra hrb
  cases ra with
  | false =>
    have HF : Hid (p = (0, 2)) := HP.out
    go_wp2_with fail
    go_ret2
    exact ⟨by rw [HF.out]; rfl, HN.out.2.2⟩
  | true =>
    obtain ⟨b0, b1, b2⟩ := HN.out.2.1.c3
    go_wp2_with fail
    clear b0 b1 b2
    with_reducible refine (right_any k' n' s' w1).mono ?_
    rintro e w2 ⟨rfl, hb2⟩
    replace HN := hide (HN.out.below hb2)
    clear hb2
    rw [← HRB.out]
    cases rb with
    | false =>
      have HF : Hid (p = (0, 2)) := HP.out
      go_wp2_with fail
      go_ret2
      exact ⟨by rw [HF.out]; rfl, HN.out.2.2⟩
    | true =>
      obtain ⟨xa, hxa⟩ : ∃ x, x = Val.wrongKind ⟨k, n, s⟩ := ⟨_, rfl⟩
      obtain ⟨xb, hxb⟩ : ∃ x, x = Val.wrongKind ⟨k', n', s'⟩ := ⟨_, rfl⟩
      rw [← hxa, ← hxb] at HP
      have HXA := hide hxa
      have HXB := hide hxb
      clear hxa hxb
      unfold Val.wrongKind at HXA HXB
      simp only at HXA HXB
      obtain ⟨a0, a1, a2⟩ := HN.out.1.c3
      obtain ⟨b0, b1, b2⟩ := HN.out.2.1.c3
      have i0 : ∀ w : World, (Instr.index 93 (.agg #[.int .u8 (k.toNat : Int), .int .i64 n, .string s, .int .u8 (k'.toNat : Int), .int .i64 n', .string s']) (.int .i64 0)).run Tryd.prog w = .ok (.agg #[.int .u8 (k.toNat : Int), .int .i64 n, .string s]) w := fun _ => by kernel_rfl
      have i1 : ∀ w : World, (Instr.index 93 (.agg #[.int .u8 (k.toNat : Int), .int .i64 n, .string s, .int .u8 (k'.toNat : Int), .int .i64 n', .string s']) (.int .i64 1)).run Tryd.prog w = .ok (.agg #[.int .u8 (k'.toNat : Int), .int .i64 n', .string s']) w := fun _ => by kernel_rfl
      go_wp2_with fail
      clear a0 a1 a2 b0 b1 b2
      go_loopw [19] (fun i wr => ∃ j : Nat, i = .int .i64 (j : Nat) ∧ V2 w wr k n s k' n' s' ∧ (j = 0 ∨ (j = 1 ∧ xa = false) ∨ (j = 2 ∧ xa = false ∧ xb = false))) (fun i _ => 2 - (intOf i).toNat)
      case atStart => exact ⟨0, rfl, HN.out, .inl rfl⟩
      case round =>
        obtain ⟨j, rfl, hv, hj⟩ := hrel
        clear HN
        have HN := hide hv
        clear hv
        rcases hj with rfl | ⟨rfl, hxa⟩ | ⟨rfl, hxa, hxb⟩
        · rw [show ((0 : Nat) : Int) = 0 from rfl]
          by_cases hk : k.toNat = 0
          · have tk : ((k.toNat : Int) != 0) = false := by simp; omega
            have HX0 : Hid (xa = false) := by
              have := HXA.out
              rw [decide_eq_true hk] at this
              exact this
            clear hk
            go_wp2_with fail
            go_roundw
            case rel => exact ⟨1, by go_num, HN.out.alloc _, .inr (.inl ⟨rfl, HX0.out⟩)⟩
            case measure => simp [intOf]
          · have tk : ((k.toNat : Int) != 0) = true := by simp; omega
            go_wp2_with fail
            with_reducible refine (number_any k _ rfl _).mono ?_
            rintro e w' ⟨rfl, rfl⟩
            cases hnb : Val.numB k with
            | true =>
              have HX0 : Hid (xa = false) := by
                have := HXA.out
                rw [hnb, decide_eq_false hk] at this
                exact this
              clear hk hnb
              go_wp2_with fail
              go_roundw
              case rel => exact ⟨1, by go_num, HN.out.alloc _, .inr (.inl ⟨rfl, HX0.out⟩)⟩
              case measure => simp [intOf]
            | false =>
              have hx1 : xa = true := by
                have := HXA.out
                rw [hnb, decide_eq_false hk] at this
                exact this
              have HF : Hid (p = (0, 270)) := by
                have := HP.out
                rw [hx1] at this
                show _ = _
                simpa using this
              clear hk hnb hx1
              go_wp2_with fail
              go_ret2
              exact ⟨by rw [HF.out]; rfl, (HN.out.alloc _).2.2⟩
        · have HXa := hide hxa
          clear hxa
          rw [show ((1 : Nat) : Int) = 1 from rfl]
          by_cases hk : k'.toNat = 0
          · have tk : ((k'.toNat : Int) != 0) = false := by simp; omega
            have HX0 : Hid (xb = false) := by
              have := HXB.out
              rw [decide_eq_true hk] at this
              exact this
            clear hk
            go_wp2_with fail
            go_roundw
            case rel => exact ⟨2, by go_num, HN.out.alloc _, .inr (.inr ⟨rfl, HXa.out, HX0.out⟩)⟩
            case measure => simp [intOf]
          · have tk : ((k'.toNat : Int) != 0) = true := by simp; omega
            go_wp2_with fail
            with_reducible refine (number_any k' _ rfl _).mono ?_
            rintro e w' ⟨rfl, rfl⟩
            cases hnb : Val.numB k' with
            | true =>
              have HX0 : Hid (xb = false) := by
                have := HXB.out
                rw [hnb, decide_eq_false hk] at this
                exact this
              clear hk hnb
              go_wp2_with fail
              go_roundw
              case rel => exact ⟨2, by go_num, HN.out.alloc _, .inr (.inr ⟨rfl, HXa.out, HX0.out⟩)⟩
              case measure => simp [intOf]
            | false =>
              have hx1 : xb = true := by
                have := HXB.out
                rw [hnb, decide_eq_false hk] at this
                exact this
              have HF : Hid (p = (0, 270)) := by
                have := HP.out
                rw [hx1] at this
                show _ = _
                simpa using this
              clear hk hnb hx1
              go_wp2_with fail
              go_ret2
              exact ⟨by rw [HF.out]; rfl, (HN.out.alloc _).2.2⟩
        · have HP1 : Hid (p = if (decide (k.toNat = 0) || decide (k'.toNat = 0)) = true then (0, 0) else (max k.toNat k'.toNat, 0)) := by
            have := HP.out
            rw [hxa, hxb] at this
            show _ = _
            simpa using this
          clear hxa hxb HP i0 i1
          rw [show ((2 : Nat) : Int) = 2 from rfl]
          obtain ⟨a0, a1, a2⟩ := HN.out.1.c3
          obtain ⟨b0, b1, b2⟩ := HN.out.2.1.c3
          by_cases hk : k.toNat = 0
          · have tk : ((k.toNat : Int) == 0) = true := by simp; omega
            have HF : Hid (p = (0, 0)) := HP1.out.trans (if_pos (by simp [hk]))
            clear hk
            go_wp2_with fail
            go_ret2
            exact ⟨by rw [HF.out]; rfl, HN.out.2.2⟩
          · have tk : ((k.toNat : Int) == 0) = false := by simp; omega
            by_cases hk' : k'.toNat = 0
            · have tk' : ((k'.toNat : Int) == 0) = true := by simp; omega
              have HF : Hid (p = (0, 0)) := HP1.out.trans (if_pos (by simp [hk']))
              clear hk hk'
              go_wp2_with fail
              go_ret2
              exact ⟨by rw [HF.out]; rfl, HN.out.2.2⟩
            · have tk' : ((k'.toNat : Int) == 0) = false := by simp; omega
              have HF : Hid (p = (max k.toNat k'.toNat, 0)) := HP1.out.trans (if_neg (by simp [hk, hk']))
              clear hk hk'
              go_wp2_with fail
              go_ret2
              refine ⟨?_, HN.out.2.2⟩
              rw [HF.out]
              show Ending.returned (.tuple #[.int .u8 (max (k.toNat : Int) (k'.toNat : Int)), .int .i64 0]) = .returned (.tuple #[.int .u8 ((max k.toNat k'.toNat : Nat) : Int), .int .i64 ((0 : Nat) : Int)])
              rw [show ((max k.toNat k'.toNat : Nat) : Int) = max (k.toNat : Int) (k'.toNat : Int) by omega]
              rfl
end Go.Proofs.YthmlfbbbcmmhdaaDoor
