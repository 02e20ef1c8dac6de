/-
  The walks of chanceryref17: plus, minus, under: what they do to five digits. Conditions: none.
-/
import Derived.Test.YthmlfbbbcmmhdaaDoorBase
import Derived.Test.YthmlfbbbcmmhdaaDoorBigMul
namespace Go.Proofs.YthmlfbbbcmmhdaaDoor
open Go.RowKit

/-- Five digits as cells. -/
def arr5 (f : Nat → Nat) : Array Value := #[.int .u64 ((f 0 : Nat) : Int), .int .u64 ((f 1 : Nat) : Int), .int .u64 ((f 2 : Nat) : Int), .int .u64 ((f 3 : Nat) : Int), .int .u64 ((f 4 : Nat) : Int)]
def D5 (V : Nat) : Array Value := arr5 (Big.dig V)
theorem arr5_at (f : Nat → Nat) (k : Nat) (h : k < 5) : (arr5 f)[k]? = some (.int .u64 ((f k : Nat) : Int)) := by
  match k, h with
  | 0, _ => rfl
  | 1, _ => rfl
  | 2, _ => rfl
  | 3, _ => rfl
  | 4, _ => rfl
theorem arr5_set (f : Nat → Nat) (k x : Nat) (h : k < 5) : (arr5 f).setIfInBounds k (.int .u64 ((x : Nat) : Int)) = arr5 (fun j => if j = k then x else f j) := by
  match k, h with
  | 0, _ => rfl
  | 1, _ => rfl
  | 2, _ => rfl
  | 3, _ => rfl
  | 4, _ => rfl
theorem arr5_congr {f g : Nat → Nat} (h : ∀ k, k < 5 → f k = g k) : arr5 f = arr5 g := by
  unfold arr5
  rw [h 0 (by omega), h 1 (by omega), h 2 (by omega), h 3 (by omega), h 4 (by omega)]
theorem Blk.c5 {w : World} {g : Nat} {t : TypeId} {f : Nat → Nat} (h : Blk w g t (arr5 f)) : w.cell? ⟨g, 0, none⟩ = some (.int .u64 ((f 0 : Nat) : Int)) ∧ w.cell? ⟨g, 1, none⟩ = some (.int .u64 ((f 1 : Nat) : Int)) ∧ w.cell? ⟨g, 2, none⟩ = some (.int .u64 ((f 2 : Nat) : Int)) ∧ w.cell? ⟨g, 3, none⟩ = some (.int .u64 ((f 3 : Nat) : Int)) ∧ w.cell? ⟨g, 4, none⟩ = some (.int .u64 ((f 4 : Nat) : Int)) :=
  ⟨h.cell 0, h.cell 1, h.cell 2, h.cell 3, h.cell 4⟩
theorem Blk.f5 {w : World} {g : Nat} {t : TypeId} {cs : Array Value} (h : Blk w g t cs) : w.frozen? ⟨g, 0, none⟩ = false ∧ w.frozen? ⟨g, 1, none⟩ = false ∧ w.frozen? ⟨g, 2, none⟩ = false ∧ w.frozen? ⟨g, 3, none⟩ = false ∧ w.frozen? ⟨g, 4, none⟩ = false :=
  ⟨h.frozen 0, h.frozen 1, h.frozen 2, h.frozen 3, h.frozen 4⟩
theorem below_five {B g : Nat} {a w : World} (h : Below B a w) (hg : B ≤ g) (u0 u1 u2 u3 u4 : Value) : Below B a (((((w.setCell ⟨g, 0, none⟩ u0).setCell ⟨g, 1, none⟩ u1).setCell ⟨g, 2, none⟩ u2).setCell ⟨g, 3, none⟩ u3).setCell ⟨g, 4, none⟩ u4) :=
  ((((h.setCell hg _).setCell hg _).setCell hg _).setCell hg _).setCell hg _
/-- The four blocks of a call. -/
def B4 (w wr : World) (A B : Nat) (f : Nat → Nat) : Prop := Blk wr w.heap.size 49 (D5 A) ∧ Blk wr (w.heap.size + 1) 49 (D5 B) ∧ Blk wr (w.heap.size + 1 + 1) 49 (arr5 fun _ => 0) ∧ Blk wr (w.heap.size + 1 + 1 + 1) 49 (arr5 f) ∧ Below w.heap.size w wr
theorem Below.drewN {B : Nat} {a w : World} (h : Below B a w) (q : Nat) : Below B a (w.drewN q) := below_drewN h q
theorem B4.put {w wr : World} {A B : Nat} {f : Nat → Nat} (h : B4 w wr A B f) (q k x : Nat) (hk : k < 5) : B4 w ((wr.drewN q).setCell ⟨w.heap.size + 1 + 1 + 1, k, none⟩ (.int .u64 ((x : Nat) : Int))) A B (fun j => if j = k then x else f j) := by
  obtain ⟨h1, h2, h3, h4, h5⟩ := h
  refine ⟨Blk.far (w := wr.drewN q) h1 (show w.heap.size ≠ w.heap.size + 1 + 1 + 1 by omega) _, Blk.far (w := wr.drewN q) h2 (show w.heap.size + 1 ≠ w.heap.size + 1 + 1 + 1 by omega) _, Blk.far (w := wr.drewN q) h3 (show w.heap.size + 1 + 1 ≠ w.heap.size + 1 + 1 + 1 by omega) _, ?_, (Below.drewN h5 q).setCell (show w.heap.size ≤ w.heap.size + 1 + 1 + 1 by omega) _⟩
  rw [← arr5_set f k x hk]
  exact Blk.put (w := wr.drewN q) h4 k _
theorem B4.fits {w wr : World} {A B : Nat} {f g : Nat → Nat} (h : B4 w wr A B f) (he : ∀ k, k < 5 → f k = g k) : B4 w wr A B g := by
  unfold B4 at h ⊢
  rw [← arr5_congr he]
  exact h
theorem upto_step (d : Nat → Nat) (k j : Nat) : (if j = k then d k else if j < k then d j else 0) = if j < k + 1 then d j else 0 := by
  by_cases h : j = k
  · subst h; rw [if_pos rfl, if_pos (by omega)]
  · rw [if_neg h]
    by_cases h2 : j < k
    · rw [if_pos h2, if_pos (by omega)]
    · rw [if_neg h2, if_neg (by omega)]
theorem B4.new (w : World) (A B : Nat) : B4 w ((((w.alloc (.cells (D5 A) 49)).alloc (.cells (D5 B) 49)).alloc (.cells (arr5 fun _ => 0) 49)).alloc (.cells (arr5 fun _ => 0) 49)) A B (fun _ => 0) := by
  refine ⟨(((Blk.new _ _ _).alloc _).alloc _).alloc _, ?_, ?_, ?_, ?_⟩
  · have := ((Blk.new (w.alloc (.cells (D5 A) 49)) 49 (D5 B)).alloc (.cells (arr5 fun _ => 0) 49)).alloc (.cells (arr5 fun _ => 0) 49)
    simpa using this
  · have := (Blk.new ((w.alloc (.cells (D5 A) 49)).alloc (.cells (D5 B) 49)) 49 (arr5 fun _ => 0)).alloc (.cells (arr5 fun _ => 0) 49)
    simpa using this
  · have := Blk.new (((w.alloc (.cells (D5 A) 49)).alloc (.cells (D5 B) 49)).alloc (.cells (arr5 fun _ => 0) 49)) 49 (arr5 fun _ => 0)
    simpa using this
  · exact ((((Below.refl _ _).alloc (Nat.le_refl _) _).alloc (by simp) _).alloc (by simp; omega) _).alloc (by simp; omega) _

set_option maxRecDepth 8000 in
set_option maxHeartbeats 1600000 in
theorem plus_any (A B : Nat) (w : World) : Calls Tryd.prog 66 #[.agg (D5 A), .agg (D5 B)] w fun e w' => e = .returned (.agg (D5 (A + B))) ∧ Below w.heap.size w w' := by
  go_enter Tryd.func66, Tryd.ntmps66
  go_wp2_with fail
  go_loopw [6, 7] (fun c i wr => ∃ k : Nat, k ≤ 5 ∧ i = .int .i64 (k : Nat) ∧ c = .int .u64 ((Big.carry A B k : Nat) : Int) ∧ B4 w wr A B (fun j => if j < k then Big.dig (A + B) j else 0)) (fun _ i _ => 5 - (intOf i).toNat)
  case atStart => exact ⟨0, by omega, rfl, by rw [Big.carry_zero]; rfl, B4.new w A B⟩
  case round =>
    obtain ⟨k, hk, rfl, rfl, hb⟩ := hrel
    have HB := hide hb
    clear hb
    by_cases hlt : k < 5
    · have hx := Big.dig_lt A k
      have hy := Big.dig_lt B k
      have hc := Big.carry_le A B k
      have hd := Big.dig_add A B k
      have hcs := Big.carry_succ A B k
      rw [show Big.M = 4294967296 from rfl] at hx hy hd hcs
      have a0 : wr.cell? ⟨w.heap.size, k, none⟩ = some (.int .u64 ((Big.dig A k : Nat) : Int)) := (HB.out.1.cell k).trans (arr5_at _ k hlt)
      have b0 : wr.cell? ⟨w.heap.size + 1, k, none⟩ = some (.int .u64 ((Big.dig B k : Nat) : Int)) := (HB.out.2.1.cell k).trans (arr5_at _ k hlt)
      have o0 : wr.cell? ⟨w.heap.size + 1 + 1 + 1, k, none⟩ = some _ := (HB.out.2.2.2.1.cell k).trans (arr5_at _ k hlt)
      have f0 := HB.out.2.2.2.1.frozen k
      obtain ⟨x, ex⟩ : ∃ x, x = Big.dig A k := ⟨_, rfl⟩
      obtain ⟨y, ey⟩ : ∃ x, x = Big.dig B k := ⟨_, rfl⟩
      obtain ⟨c, ec⟩ : ∃ x, x = Big.carry A B k := ⟨_, rfl⟩
      rw [← ex] at a0 hx hd hcs
      rw [← ey] at b0 hy hd hcs
      rw [← ec] at hc hd hcs ⊢
      have HD := hide hd
      have HC := hide hcs
      clear ex ey ec hd hcs
      have s1 : IntKind.u64.wrap ((x : Int) + (y : Int)) = (x : Int) + (y : Int) := by rw [IntKind.wrap_u64]; omega
      have s2 : IntKind.u64.wrap ((x : Int) + (y : Int) + (c : Int)) = (x : Int) + (y : Int) + (c : Int) := by rw [IntKind.wrap_u64]; omega
      have hkI : (k : Int) < 5 := by omega
      go_wp2_with fail
      go_quiet (fail)
      clear s1 s2
      go_wp2_with fail
      have e1 : ((x : Int) + (y : Int) + (c : Int)) % 4294967296 = ((Big.dig (A + B) k : Nat) : Int) := by have := HD.out; omega
      have e2 : ((x : Int) + (y : Int) + (c : Int)) / 4294967296 = ((Big.carry A B (k + 1) : Nat) : Int) := by have := HC.out; omega
      rw [e1, e2]
      go_roundw
      case rel =>
        refine ⟨k + 1, hlt, by go_num, rfl, ?_⟩
        exact (HB.out.put _ k (Big.dig (A + B) k) hlt).fits fun j _ => upto_step _ k j
      case measure => simp [intOf]; omega
    · obtain rfl : k = 5 := by omega
      obtain ⟨-, -, h3, h4, h5⟩ := HB.out
      rw [arr5_congr (g := Big.dig (A + B)) (fun j hj => if_pos hj)] at h4
      obtain ⟨o0, o1, o2, o3, o4⟩ := h4.c5
      obtain ⟨r0, r1, r2, r3, r4⟩ := h3.c5
      obtain ⟨f0, f1, f2, f3, f4⟩ := h3.f5
      have hl := h3.lt
      have HB5 := hide h5
      clear HB h3 h4 h5
      go_wp2_with fail
      refine bodyPost_ret (v := .agg (D5 (A + B))) (by simp [results, Tryd.results66, go_sem, r0, r1, r2, r3, r4, D5, arr5]) rfl ⟨rfl, below_five HB5.out (by omega) _ _ _ _ _⟩

set_option maxRecDepth 8000 in
set_option maxHeartbeats 1600000 in
theorem minus_any (A B : Nat) (w : World) (hAB : B ≤ A) : Calls Tryd.prog 70 #[.agg (D5 A), .agg (D5 B)] w fun e w' => e = .returned (.agg (D5 (A - B))) ∧ Below w.heap.size w w' := by
  go_enter Tryd.func70, Tryd.ntmps70
  go_wp2_with fail
  go_loopw [6, 7] (fun c i wr => ∃ k : Nat, k ≤ 5 ∧ i = .int .i64 (k : Nat) ∧ c = .int .u64 ((Big.borrow A B k : Nat) : Int) ∧ B4 w wr A B (fun j => if j < k then Big.dig (A - B) j else 0)) (fun _ i _ => 5 - (intOf i).toNat)
  case atStart => exact ⟨0, by omega, rfl, by rw [Big.borrow_zero]; rfl, B4.new w A B⟩
  case round =>
    obtain ⟨k, hk, rfl, rfl, hb⟩ := hrel
    have HB := hide hb
    clear hb
    by_cases hlt : k < 5
    · have hx := Big.dig_lt A k
      have hy := Big.dig_lt B k
      have hc := Big.borrow_le A B k
      have hc1 := Big.borrow_le A B (k + 1)
      have hd := Big.dig_sub A B k hAB
      have hcs := Big.borrow_succ A B k
      rw [show Big.M = 4294967296 from rfl] at hx hy hd hcs
      have a0 : wr.cell? ⟨w.heap.size, k, none⟩ = some (.int .u64 ((Big.dig A k : Nat) : Int)) := (HB.out.1.cell k).trans (arr5_at _ k hlt)
      have b0 : wr.cell? ⟨w.heap.size + 1, k, none⟩ = some (.int .u64 ((Big.dig B k : Nat) : Int)) := (HB.out.2.1.cell k).trans (arr5_at _ k hlt)
      have o0 : wr.cell? ⟨w.heap.size + 1 + 1 + 1, k, none⟩ = some _ := (HB.out.2.2.2.1.cell k).trans (arr5_at _ k hlt)
      have f0 := HB.out.2.2.2.1.frozen k
      obtain ⟨x, ex⟩ : ∃ x, x = Big.dig A k := ⟨_, rfl⟩
      obtain ⟨y, ey⟩ : ∃ x, x = Big.dig B k := ⟨_, rfl⟩
      obtain ⟨c, ec⟩ : ∃ x, x = Big.borrow A B k := ⟨_, rfl⟩
      rw [← ex] at a0 hx hd hcs
      rw [← ey] at b0 hy hd hcs
      rw [← ec] at hc hd hcs ⊢
      have HD := hide hd
      have HC := hide hcs
      have HC1 := hide hc1
      clear ex ey ec hd hcs hc1
      have s1 : IntKind.u64.wrap ((x : Int) + 4294967296) = (x : Int) + 4294967296 := by rw [IntKind.wrap_u64]; omega
      have s2 : IntKind.u64.wrap ((x : Int) + 4294967296 - (y : Int)) = (x : Int) + 4294967296 - (y : Int) := by rw [IntKind.wrap_u64]; omega
      have s3 : IntKind.u64.wrap ((x : Int) + 4294967296 - (y : Int) - (c : Int)) = (x : Int) + 4294967296 - (y : Int) - (c : Int) := by rw [IntKind.wrap_u64]; omega
      have hkI : (k : Int) < 5 := by omega
      go_wp2_with fail
      go_quiet (fail)
      clear s1 s2 s3
      have e1 : ((x : Int) + 4294967296 - (y : Int) - (c : Int)) % 4294967296 = ((Big.dig (A - B) k : Nat) : Int) := by have := HD.out; omega
      have e2 : 1 - ((x : Int) + 4294967296 - (y : Int) - (c : Int)) / 4294967296 = ((Big.borrow A B (k + 1) : Nat) : Int) := by have := HC.out; have := HC1.out; omega
      have g1 : 0 ≤ (x : Int) + 4294967296 - (y : Int) - (c : Int) := by omega
      have g2 : (x : Int) + 4294967296 - (y : Int) - (c : Int) ≤ 18446744073709551615 := by omega
      have HE1 := hide e1
      have HE2 := hide e2
      clear e1 e2
      go_wp2_with fail
      rw [HE1.out]
      first | rw [HE2.out] | go_outline
      go_roundw
      case rel =>
        refine ⟨k + 1, hlt, by go_num, rfl, ?_⟩
        exact (HB.out.put _ k (Big.dig (A - B) k) hlt).fits fun j _ => upto_step _ k j
      case measure => simp [intOf]; omega
    · obtain rfl : k = 5 := by omega
      obtain ⟨-, -, h3, h4, h5⟩ := HB.out
      rw [arr5_congr (g := Big.dig (A - B)) (fun j hj => if_pos hj)] at h4
      obtain ⟨o0, o1, o2, o3, o4⟩ := h4.c5
      obtain ⟨r0, r1, r2, r3, r4⟩ := h3.c5
      obtain ⟨f0, f1, f2, f3, f4⟩ := h3.f5
      have hl := h3.lt
      have HB5 := hide h5
      clear HB h3 h4 h5
      go_wp2_with fail
      refine bodyPost_ret (v := .agg (D5 (A - B))) (by simp [results, Tryd.results70, go_sem, r0, r1, r2, r3, r4, D5, arr5]) rfl ⟨rfl, below_five HB5.out (by omega) _ _ _ _ _⟩

/-- The two blocks of a call. -/
def B2 (w wr : World) (A B : Nat) : Prop := Blk wr w.heap.size 49 (D5 A) ∧ Blk wr (w.heap.size + 1) 49 (D5 B) ∧ Below w.heap.size w wr
theorem B2.new (w : World) (A B : Nat) : B2 w ((w.alloc (.cells (D5 A) 49)).alloc (.cells (D5 B) 49)) A B := by
  refine ⟨(Blk.new _ _ _).alloc _, ?_, ?_⟩
  · have := Blk.new (w.alloc (.cells (D5 A) 49)) 49 (D5 B)
    simpa using this
  · exact ((Below.refl _ _).alloc (Nat.le_refl _) _).alloc (by simp) _
theorem B2.drewN {w wr : World} {A B : Nat} (h : B2 w wr A B) (q : Nat) : B2 w (wr.drewN q) A B := ⟨h.1, h.2.1, below_drewN h.2.2 q⟩
def UnderTo (A B k : Nat) : Prop := A < B ↔ A % Big.P k < B % Big.P k
set_option maxRecDepth 8000 in
set_option maxHeartbeats 1600000 in
theorem under_any (A B : Nat) (w : World) (hA : A < Big.P 5) (hB : B < Big.P 5) : Calls Tryd.prog 69 #[.agg (D5 A), .agg (D5 B)] w fun e w' => e = .returned (.bool (decide (A < B))) ∧ Below w.heap.size w w' := by
  obtain ⟨r, hr⟩ : ∃ r, r = decide (A < B) := ⟨_, rfl⟩
  rw [← hr]
  have HR := hide hr
  have h5 : Hid (UnderTo A B 5) := by show _ ↔ _; rw [Nat.mod_eq_of_lt hA, Nat.mod_eq_of_lt hB]
  clear hr hA hB
  go_enter Tryd.func69, Tryd.ntmps69
  go_wp2_with fail
  go_loopw [5] (fun i wr => ((∃ k : Nat, k < 5 ∧ i = .int .i64 (k : Nat) ∧ UnderTo A B (k + 1)) ∨ (i = .int .i64 (-1) ∧ UnderTo A B 0)) ∧ B2 w wr A B) (fun i _ => (intOf i + 1).toNat)
  case atStart => exact ⟨.inl ⟨4, by omega, rfl, h5.out⟩, B2.new w A B⟩
  case round =>
    obtain ⟨hi, hb⟩ := hrel
    have HB := hide hb
    clear hb h5
    rcases hi with ⟨k, hlt, rfl, hu⟩ | ⟨rfl, hu⟩
    · have HU := hide (hu.trans (Big.lt_step A B k))
      clear hu
      have a0 : wr.cell? ⟨w.heap.size, k, none⟩ = some (.int .u64 ((Big.dig A k : Nat) : Int)) := (HB.out.1.cell k).trans (arr5_at _ k hlt)
      have b0 : wr.cell? ⟨w.heap.size + 1, k, none⟩ = some (.int .u64 ((Big.dig B k : Nat) : Int)) := (HB.out.2.1.cell k).trans (arr5_at _ k hlt)
      obtain ⟨x, ex⟩ : ∃ x, x = Big.dig A k := ⟨_, rfl⟩
      obtain ⟨y, ey⟩ : ∃ x, x = Big.dig B k := ⟨_, rfl⟩
      rw [← ex] at a0 HU
      rw [← ey] at b0 HU
      clear ex ey
      have hkI : (k : Int) < 5 := by omega
      by_cases hxy : x = y
      · subst hxy
        have HN : Hid (UnderTo A B k) := by
          refine HU.out.trans ⟨fun h => ?_, fun h => .inr ⟨rfl, h⟩⟩
          rcases h with h | h
          · omega
          · exact h.2
        have t1 : ((x : Int) != (x : Int)) = false := by simp
        go_wp2_with fail
        go_quiet (fail)
        go_wp2_with fail
        go_roundw
        case rel =>
          refine ⟨?_, HB.out.drewN _⟩
          cases k with
          | zero => exact .inr ⟨by go_num, HN.out⟩
          | succ k => exact .inl ⟨k, by omega, by go_num, HN.out⟩
        case measure => simp [intOf]
      · have t1 : ((x : Int) != (y : Int)) = true := by simp; omega
        have HF : Hid (r = decide (x < y)) := by
          show _ = _
          rw [HR.out, Bool.eq_iff_iff, decide_eq_true_eq, decide_eq_true_eq, HU.out]
          omega
        clear hxy
        go_wp2_with fail
        go_quiet (fail)
        go_wp2_with fail
        go_quiet (fail)
        go_wp2_with fail
        go_ret
        exact ⟨by rw [HF.out]; rfl, below_drewN (below_drewN HB.out.2.2 _) _⟩
    · have HF : Hid (r = false) := by
        show _ = _
        rw [HR.out, decide_eq_false_iff_not, (show A < B ↔ A % Big.P 0 < B % Big.P 0 from hu), Big.P_zero, Nat.mod_one, Nat.mod_one]
        omega
      clear hu
      go_wp2_with fail
      go_ret
      exact ⟨by rw [HF.out]; rfl, HB.out.2.2⟩
end Go.Proofs.YthmlfbbbcmmhdaaDoor
