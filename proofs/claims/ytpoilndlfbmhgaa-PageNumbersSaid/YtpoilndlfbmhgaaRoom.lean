/-
  The walks of page.Room and page.Drop. Conditions: the bytes read as a list.
-/
import Derived.Test.YtpoilndlfbmhgaaPutMath
import Derived.Test.YtpoilndlfbmhgaaInsert
import Derived.Test.YtpoilndlfbmhgaaSplit
namespace Go.Proofs.Ytpoilndlfbmhgaa
open Go.RowKit

namespace Pag
def roomB (b : List UInt8) : Int × Nat := match unpB b with
  | none => (0, 170)
  | some p => (4072 - (taken p.cells : Int), 0)
theorem roomB_none {b : List UInt8} (h : unpB b = none) : roomB b = (0, 170) := by unfold roomB; rw [h]
theorem roomB_some {b : List UInt8} {p : Pg} (h : unpB b = some p) : roomB b = (4072 - (taken p.cells : Int), 0) := by unfold roomB; rw [h]
end Pag
/-- The answer of Room. -/
def RoR (w : World) (r : Int × Nat) (e : Ending) (w' : World) : Prop := Below w.heap.size w w' ∧ e = .returned (.tuple #[.int .i64 r.1, .int .i64 (r.2 : Int)])
theorem RoR.of {w w' : World} {r : Int × Nat} {a : Int} {n : Nat} (h : r = (a, n)) (hb : Below w.heap.size w w') : RoR w r (.returned (.tuple #[.int .i64 a, .int .i64 (n : Int)])) w' := by
  subst h
  exact ⟨hb, rfl⟩
/-- The answer of Drop. -/
def DrR (w : World) (r : List UInt8 × Bool × Nat) (e : Ending) (w' : World) : Prop :=
  Below w.heap.size w w' ∧ ∃ v, e = .returned (.tuple #[v, .bool r.2.1, .int .i64 (r.2.2 : Int)]) ∧ w'.ownsRow w.heap.size 5 1 v r.1.length (r.1.map B8)
theorem DrR.none {w w' : World} {r : List UInt8 × Bool × Nat} {n : Nat} (h : r = ([], false, n)) (hb : Below w.heap.size w w') : DrR w r (.returned (.tuple #[.slice none 0 0, .bool false, .int .i64 (n : Int)])) w' := by
  subst h
  exact ⟨hb, _, rfl, own_nil _ _ _ _⟩
theorem DrR.of {w w' : World} {r : List UInt8 × Bool × Nat} {x : List UInt8} {b : Bool} {v : Value} {m : Nat} (h : r = (x, b, 0)) (hb : Below w.heap.size w w') (hm : m = x.length) (ho : w'.ownsRow w.heap.size 5 1 v m (x.map B8)) : DrR w r (.returned (.tuple #[v, .bool b, .int .i64 0])) w' := by
  subst h hm
  exact ⟨hb, v, rfl, ho⟩
set_option linter.unusedVariables false in
set_option maxRecDepth 100000 in
set_option maxHeartbeats 1600000 in
theorem room_any (A : Option Addr) (n c : Nat) (l : List UInt8) (w : World) (hl : Rb w w.heap.size A n l) (hn : n ≤ 140737488355328) (hc : n ≤ c) (hc2 : c ≤ 9223372036854775807) :
    Calls Try.prog 21 #[.slice A n c] w (RoR w (Pag.roomB l)) := by
  have HL := hide hl
  clear hl
  go_enter Try.func21, Try.ntmps21
  go_wp2_with fail
  with_reducible refine (unpack_any A n c l _ HL.out hn hc hc2).mono ?_
  rintro e w1 ⟨hb1, hr⟩
  have HB1 := hide hb1
  have hs1 := hb1.size
  cases hu : Pag.unpB l with
  | none =>
    rw [hu] at hr
    obtain rfl := hr
    have HP := hide (Pag.roomB_none hu)
    clear hu hb1
    go_wp2_with fail
    go_ret2
    exact RoR.of HP.out (HB1.out.alloc hs1 _)
  | some p =>
    rw [hu] at hr
    obtain ⟨v, rfl, Av, cv, rfl, hown⟩ := hr
    obtain ⟨hr1, hr2, hr3⟩ := Pag.unpB_right hu
    have HU := hide hu
    have HRr := hide hr1
    have HRt := hide hr2
    obtain ⟨m, hm⟩ : ∃ m, m = p.cells.length := ⟨_, rfl⟩
    rw [← hm] at hown hr3 ⊢
    have HM := hide hm
    have hmc : m ≤ cv ∧ cv ≤ 9223372036854775807 := by
      obtain ⟨A', c', e', x1, x2⟩ := hown.form
      rw [← HM.out] at e' x1
      injection e' with _ _ e3
      subst e3
      exact ⟨x1, x2⟩
    obtain ⟨hmc1, hmc2⟩ := hmc
    obtain ⟨w2, hw2⟩ : ∃ w2, w2 = w1.alloc (.cells #[.int .u8 (p.kind.toNat : Int), .int .i64 p.next, .slice Av m cv] 25) := ⟨_, rfl⟩
    have hb2 : Below w1.heap.size w1 w2 := by rw [hw2]; exact (Below.refl _ _).alloc (Nat.le_refl _) _
    have HK2 : Hid (Blk w2 w1.heap.size 25 #[.int .u8 (p.kind.toNat : Int), .int .i64 p.next, .slice Av m cv]) := by rw [hw2]; exact Blk.new _ _ _
    have hs2 : w1.heap.size < w2.heap.size := by rw [hw2]; simp
    have HB2 := hide (HB1.out.trans (hb2.mono hs1))
    have HO2 := hide (hown.below hb2 hs1)
    clear hu hr1 hr2 hm hb1 hown
    go_upto_region 2 with fail
    rw [← hw2]
    clear hw2 hb2
    have k0 := HK2.out.cell 0
    have k1 := HK2.out.cell 1
    have k2 := HK2.out.cell 2
    simp at k0 k1 k2
    have HP := hide (Pag.roomB_some HU.out)
    have HMay := hide (Pag.right_may HRr.out)
    obtain ⟨tk, htk⟩ : ∃ tk, tk = Pag.taken p.cells := ⟨_, rfl⟩
    have HTk := hide htk
    have htk2 : tk ≤ 4072 := by rw [htk]; exact HRt.out
    clear htk
    go_wp2_with fail
    with_reducible refine (taken_any Av m cv p.cells _ (by exact HO2.out.rd HM.out (by omega)) HMay.out (by omega)).mono ?_
    rw [← HTk.out]
    rintro e w3 ⟨rfl, hb3⟩
    have HB3 := hide (HB2.out.trans (hb3.mono (by omega)))
    clear hb3 k0 k1 k2
    go_wp2_with fail
    go_ret2
    exact RoR.of (by rw [HP.out, HTk.out]) HB3.out
set_option linter.unusedVariables false in
set_option maxRecDepth 100000 in
set_option maxHeartbeats 1600000 in
theorem drop_any (A A' : Option Addr) (n c n' c' : Nat) (l key : List UInt8) (w : World) (hl : Rb w w.heap.size A n l) (hn : n ≤ 140737488355328) (hc : n ≤ c) (hc2 : c ≤ 9223372036854775807) (hk : Rb w w.heap.size A' n' key) :
    Calls Try.prog 20 #[.slice A n c, .slice A' n' c'] w (DrR w (Pag.dropB l key)) := by
  have HL := hide hl
  have HK := hide hk
  have HNl := hide hl.len
  clear hl hk
  go_enter Try.func20, Try.ntmps20
  go_wp2_with fail
  with_reducible refine (unpack_any A n c l _ HL.out hn hc hc2).mono ?_
  rintro e w1 ⟨hb1, hr⟩
  have HB1 := hide hb1
  have hs1 := hb1.size
  cases hu : Pag.unpB l with
  | none =>
    rw [hu] at hr
    obtain rfl := hr
    have HP := hide (Pag.dropB_none (key := key) hu)
    clear hu hb1
    go_wp2_with fail
    go_ret3
    exact DrR.none HP.out (HB1.out.alloc hs1 _)
  | some p =>
    rw [hu] at hr
    obtain ⟨v, rfl, Av, cv, rfl, hown⟩ := hr
    obtain ⟨hr1, hr2, hr3⟩ := Pag.unpB_right hu
    have HU := hide hu
    have HRr := hide hr1
    have HRt := hide hr2
    obtain ⟨m, hm⟩ : ∃ m, m = p.cells.length := ⟨_, rfl⟩
    rw [← hm] at hown hr3 ⊢
    have HM := hide hm
    have hmc : m ≤ cv ∧ cv ≤ 9223372036854775807 := by
      obtain ⟨A', c', e', x1, x2⟩ := hown.form
      rw [← HM.out] at e' x1
      injection e' with _ _ e3
      subst e3
      exact ⟨x1, x2⟩
    obtain ⟨hmc1, hmc2⟩ := hmc
    obtain ⟨w2, hw2⟩ : ∃ w2, w2 = w1.alloc (.cells #[.int .u8 (p.kind.toNat : Int), .int .i64 p.next, .slice Av m cv] 25) := ⟨_, rfl⟩
    have hb2 : Below w1.heap.size w1 w2 := by rw [hw2]; exact (Below.refl _ _).alloc (Nat.le_refl _) _
    have HK2 : Hid (Blk w2 w1.heap.size 25 #[.int .u8 (p.kind.toNat : Int), .int .i64 p.next, .slice Av m cv]) := by rw [hw2]; exact Blk.new _ _ _
    have hs2 : w1.heap.size < w2.heap.size := by rw [hw2]; simp
    have HB2 := hide (HB1.out.trans (hb2.mono hs1))
    have HO2 := hide (hown.below hb2 hs1)
    clear hu hr1 hr2 hm hb1 hown
    go_upto_region 2 with fail
    rw [← hw2]
    clear hw2 hb2
    have k0 := HK2.out.cell 0
    have k1 := HK2.out.cell 1
    have k2 := HK2.out.cell 2
    simp at k0 k1 k2
    have HRi := hide (Pag.right_rise HRr.out)
    go_wp2_with fail
    with_reducible refine (find_any Av A' m cv n' c' p.cells key _ (by exact HO2.out.rd HM.out (by omega)) (by exact (HK.out.below HB2.out (Nat.le_refl _)).more (by omega)) (by omega) HRi.out).mono ?_
    rintro e w3 ⟨rfl, hb3⟩
    have HB3 := hide (HB2.out.trans (hb3.mono (by omega)))
    have HK3 := hide (HK2.out.below hb3 hs2)
    have HO3 := hide (HO2.out.below hb3 (by omega))
    have hs3 := hb3.size
    clear hb3 k0 k1 k2
    have k0 := HK3.out.cell 0
    have k1 := HK3.out.cell 1
    have k2 := HK3.out.cell 2
    simp at k0 k1 k2
    cases hh : Pag.hasB p.cells key with
    | false =>
      have HP := hide (Pag.dropB_no HU.out hh)
      clear hh
      go_wp2_with fail
      with_reducible refine (clone_any A n c l _ (by exact (HL.out.below HB3.out (Nat.le_refl _)).more (by omega)) hn).mono ?_
      rintro e w4 ⟨v4, rfl, hown4, hb4⟩
      have HB4 := hide (HB3.out.trans (hb4.mono (by omega)))
      have HO4 := hide (own_base hown4 (show w.heap.size ≤ w3.heap.size by omega))
      clear hown4 hb4 k0 k1 k2
      go_wp2_with fail
      go_ret3
      exact DrR.of HP.out HB4.out HNl.out.symm HO4.out
    | true =>
      obtain ⟨x, hx, hxl⟩ := Pag.drop_pack HRr.out HRt.out hh
      have HP := hide (Pag.dropB_yes HU.out hh hx)
      have HX := hide hx
      have HXl := hide hxl
      obtain ⟨f, hf, hfk⟩ := Pag.has_find hh
      obtain ⟨i, hi⟩ : ∃ i, i = Pag.findN p.cells key := ⟨_, rfl⟩
      have HI := hide hi
      rw [← hi] at hf ⊢
      have hilt : i < m := by rw [HM.out]; exact (List.getElem?_eq_some_iff.1 hf).1
      have hel : (p.cells.eraseIdx i).length = m - 1 := by rw [List.length_eraseIdx, if_pos (by rw [← HM.out]; exact hilt), ← HM.out]
      have HEl := hide hel
      clear hh hx hxl hf hfk hi hel
      go_wp2_with fail
      with_reducible refine (delete_any Av m cv i w.heap.size 0 p.cells _ (by exact HO3.out) HM.out hilt hmc2 (by omega)).mono ?_
      rintro e w4 ⟨v4, rfl, ho4, hb4, hx4⟩
      obtain ⟨A4, c4, rfl, hc4a, hc4b⟩ := ho4.form
      rw [HEl.out] at ho4 hc4a ⊢
      have hs4 := hb4.size
      have HB4 := hide (HB3.out.trans hb4)
      have HK4 := hide (hx4 _ _ _ HK3.out (by decide))
      obtain ⟨w5, hw5⟩ : ∃ w5, w5 = w4.setCell ⟨w1.heap.size, 2, none⟩ (.slice A4 (m - 1) c4) := ⟨_, rfl⟩
      have HK5 : Hid (Blk w5 w1.heap.size 25 #[.int .u8 (p.kind.toNat : Int), .int .i64 p.next, .slice A4 (m - 1) c4]) := by rw [hw5]; exact HK4.out.put 2 _
      have HB5 : Hid (Below w.heap.size w w5) := by rw [hw5]; exact HB4.out.setCell hs1 _
      have HO5 : Hid (CeOwn w5 w.heap.size 0 (.slice A4 (m - 1) c4) (p.cells.eraseIdx i)) := by rw [hw5]; exact ho4.box HK4.out hs1 2 _
      have hs5 : w4.heap.size ≤ w5.heap.size := by rw [hw5]; simp
      clear ho4 hb4 hx4 k0 k1 k2
      have k0 := HK4.out.cell 0
      have k1 := HK4.out.cell 1
      have k2 := HK4.out.cell 2
      have q0 := HK4.out.frozen 2
      simp at k0 k1 k2
      go_upto_region 8 with fail
      rw [← hw5]
      clear hw5 k0 k1 k2 q0
      have k0 := HK5.out.cell 0
      have k1 := HK5.out.cell 1
      have k2 := HK5.out.cell 2
      simp at k0 k1 k2
      go_wp2_with fail
      have cp := pack_any p.kind p.next A4 (m - 1) c4 (p.cells.eraseIdx i) _ (by exact HO5.out.rd HEl.out.symm (by omega)) (by omega)
      rw [show Pag.pack ⟨p.kind, p.next, p.cells.eraseIdx i⟩ = (0, x) by rw [HI.out]; exact HX.out] at cp
      with_reducible refine cp.mono ?_
      clear cp
      rintro e w6 ⟨v6, rfl, h1, h2⟩
      simp only at h1 ⊢
      have HB6 := hide (HB5.out.trans (h2.mono (by omega)))
      have HO6 := hide (own_base h1 (show w.heap.size ≤ w5.heap.size by omega))
      clear h1 h2 k0 k1 k2
      go_wp2_with fail
      go_ret3
      exact DrR.of HP.out HB6.out rfl HO6.out
end Go.Proofs.Ytpoilndlfbmhgaa
