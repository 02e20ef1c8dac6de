/-
  The walk of page.Unpack: it is Pag.unpB. Conditions: the bytes read as a list.
-/
import Derived.Test.YtpoilndlfbmhgaaReadQ
namespace Go.Proofs.Ytpoilndlfbmhgaa
open Go.RowKit

namespace Pag
/-- The right page whose bytes these are. -/
def unpB (b : List UInt8) : Option Pg := match readB b with
  | none => none
  | some p => if pack p = (0, b) then some p else none
theorem unpB_none {b : List UInt8} (h : readB b = none) : unpB b = none := by unfold unpB; rw [h]
theorem unpB_no {b : List UInt8} {p : Pg} (h : readB b = some p) (hp : pack p ≠ (0, b)) : unpB b = none := by unfold unpB; rw [h]; simp only; rw [if_neg hp]
theorem unpB_yes {b : List UInt8} {p : Pg} (h : readB b = some p) (hp : pack p = (0, b)) : unpB b = some p := by unfold unpB; rw [h]; simp only; rw [if_pos hp]
theorem cellsAt_len (b : List UInt8) : ∀ (k a : Nat) (cs : List Ce), cellsAt b k a = some cs → cs.length = k := by
  intro k
  induction k with
  | zero => intro a cs h; simp [cellsAt] at h; subst h; rfl
  | succ k ih =>
    intro a cs h
    unfold cellsAt at h
    split at h
    · cases h
    · simp only at h
      split at h
      · cases h
      · obtain ⟨r, hr, rfl⟩ := Option.map_eq_some_iff.1 h
        simp [ih _ _ hr]
theorem readB_len {b : List UInt8} {p : Pg} (h : readB b = some p) : p.cells.length < 65536 ∧ b.length = 4080 := by
  unfold readB at h
  split at h
  · cases h
  · rename_i h4
    obtain ⟨cs, hcs, rfl⟩ := Option.map_eq_some_iff.1 h
    have := cellsAt_len _ _ _ _ hcs
    refine ⟨?_, by omega⟩
    show cs.length < 65536
    rw [this]
    exact leAt_lt b 2 2
theorem unpB_pack {b : List UInt8} {p : Pg} (h : unpB b = some p) : pack p = (0, b) := by
  unfold unpB at h
  split at h
  · cases h
  · rename_i q _
    split at h
    · injection h with h
      subst h
      assumption
    · cases h
/-- What was packed is unpacked. -/
theorem unpB_of_pack {b : List UInt8} {p : Pg} (h : pack p = (0, b)) : unpB b = some p := by
  obtain ⟨h1, h2, h3⟩ := pack_cand h
  have hr : readB b = some p := by
    rw [readB_some h3 (pack_len h), h1]
    cases p
    simp only at h2
    rw [h2]
  exact unpB_yes hr h
end Pag
/-- The answer of Unpack. -/
def UnP (w : World) (r : Option Pag.Pg) (e : Ending) (w' : World) : Prop :=
  Below w.heap.size w w' ∧ match r with
  | none => e = .returned (.tuple #[.agg #[.int .u8 0, .int .i64 0, .slice none 0 0], .int .i64 170])
  | some p => ∃ v, e = .returned (.tuple #[v, .int .i64 0]) ∧ PgOwn w' w.heap.size v p
theorem UnP.none {w w' : World} {r : Option Pag.Pg} (h : r = Option.none) (hb : Below w.heap.size w w') : UnP w r (.returned (.tuple #[.agg #[.int .u8 0, .int .i64 0, .slice Option.none 0 0], .int .i64 170])) w' := by
  subst h
  exact ⟨hb, rfl⟩
theorem UnP.some {w w' : World} {r : Option Pag.Pg} {p : Pag.Pg} {v : Value} (h : r = Option.some p) (hb : Below w.heap.size w w') (ho : PgOwn w' w.heap.size v p) : UnP w r (.returned (.tuple #[v, .int .i64 0])) w' := by
  subst h
  exact ⟨hb, v, rfl, ho⟩
theorem PgOwn.base {w : World} {lo lo' : Nat} {v : Value} {p : Pag.Pg} (h : PgOwn w lo v p) (hl : lo' ≤ lo) : PgOwn w lo' v p := by
  obtain ⟨A, c, e, h⟩ := h
  exact ⟨A, c, e, h.base hl (Nat.zero_le _)⟩
theorem ne_pack {p : Pag.Pg} {l : List UInt8} {r : Nat × List UInt8} (h : r = Pag.pack p) (hn : r.1 ≠ 0 ∨ r.2 ≠ l) : Pag.pack p ≠ (0, l) := by
  rw [← h]
  intro e
  rw [e] at hn
  simp at hn
set_option linter.unusedVariables false in
set_option maxRecDepth 100000 in
set_option maxHeartbeats 1600000 in
theorem unpack_any (A : Option Addr) (n c : Nat) (l : List UInt8) (w : World) (hl : Rb w w.heap.size A n l) (hn : n ≤ 140737488355328) (hc : n ≤ c) (hc2 : c ≤ 9223372036854775807) :
    Calls Try.prog 16 #[.slice A n c] w (UnP w (Pag.unpB l)) := by
  have HL := hide hl
  clear hl
  obtain ⟨w1, hw1⟩ : ∃ w1, w1 = w.alloc (.cells #[.int .u8 0, .int .i64 0, .slice none 0 0] 25) := ⟨_, rfl⟩
  have HK1 : Hid (Blk w1 w.heap.size 25 #[.int .u8 0, .int .i64 0, .slice none 0 0]) := by rw [hw1]; exact Blk.new _ _ _
  have HB1 : Hid (Below w.heap.size w w1) := by rw [hw1]; exact (Below.refl _ _).alloc (Nat.le_refl _) _
  have hs1 : w.heap.size < w1.heap.size := by rw [hw1]; simp
  go_enter Try.func16, Try.ntmps16
  go_upto_region 1 with fail
  rw [← hw1]
  clear hw1
  go_wp2_with fail
  with_reducible refine (read_any A n c l _ (by exact (HL.out.below HB1.out (Nat.le_refl _)).more (by omega)) hn hc hc2).mono ?_
  rintro e w2 ⟨hb2, hr⟩
  have HB2 := hide (HB1.out.trans (hb2.mono (Nat.le_of_lt hs1)))
  have HK2 := hide (HK1.out.below hb2 hs1)
  have hs2 := hb2.size
  cases hrd : Pag.readB l with
  | none =>
    rw [hrd] at hr
    obtain rfl := hr
    have HP := hide (Pag.unpB_none hrd)
    clear hrd hb2
    obtain ⟨w3, hw3⟩ : ∃ w3, w3 = w2.alloc (.cells #[.int .u8 0, .int .i64 0, .slice none 0 0] 25) := ⟨_, rfl⟩
    have hb3 : Below w2.heap.size w2 w3 := by rw [hw3]; exact (Below.refl _ _).alloc (Nat.le_refl _) _
    go_upto_region 2 with fail
    rw [← hw3]
    have HB3 := hide (HB2.out.trans (hb3.mono (by omega)))
    have HK3 := hide (HK2.out.below hb3 (by omega))
    clear hw3 hb3
    have q0 := HK3.out.cell 0
    have q1 := HK3.out.cell 1
    have q2 := HK3.out.cell 2
    have f0 := HK3.out.frozen 0
    have f1 := HK3.out.frozen 1
    have f2 := HK3.out.frozen 2
    simp at q0 q1 q2
    go_wp2_with fail
    exact bodyPost_ret (v := .tuple #[.agg #[.int .u8 0, .int .i64 0, .slice none 0 0], .int .i64 170]) (results_page rfl (blk3 HK3.out _ _ _) rfl rfl) rfl (UnP.none HP.out (below3 HB3.out (Nat.le_refl _) _ _ _))
  | some p =>
    rw [hrd] at hr
    obtain ⟨v, rfl, Av, cv, rfl, hown⟩ := hr
    have hpl := (Pag.readB_len hrd).1
    have HRd := hide hrd
    obtain ⟨A', c', e', hcv1, hcv2⟩ := hown.form
    injection e' with e1 e2 e3
    subst e1 e3
    obtain ⟨m, hm⟩ : ∃ m, m = p.cells.length := ⟨_, rfl⟩
    rw [← hm] at hown hpl hcv1 ⊢
    obtain ⟨w3, hw3⟩ : ∃ w3, w3 = w2.alloc (.cells #[.int .u8 (p.kind.toNat : Int), .int .i64 p.next, .slice Av m cv] 25) := ⟨_, rfl⟩
    have hb3 : Below w2.heap.size w2 w3 := by rw [hw3]; exact (Below.refl _ _).alloc (Nat.le_refl _) _
    have HK3' : Hid (Blk w3 w2.heap.size 25 #[.int .u8 (p.kind.toNat : Int), .int .i64 p.next, .slice Av m cv]) := by rw [hw3]; exact Blk.new _ _ _
    have hs3 : w2.heap.size < w3.heap.size := by rw [hw3]; simp
    have HO3 := hide (hown.below hb3 hs2)
    have HM := hide hm
    clear hm
    go_upto_region 2 with fail
    rw [← hw3]
    have HB3 := hide (HB2.out.trans (hb3.mono (by omega)))
    have HK3 := hide (HK2.out.below hb3 (by omega))
    clear hw3 hb3 hb2 hrd hown
    have p0 := HK3'.out.cell 0
    have p1 := HK3'.out.cell 1
    have p2 := HK3'.out.cell 2
    simp at p0 p1 p2
    go_wp2_with fail
    with_reducible refine (pack_any p.kind p.next Av m cv p.cells _ (by exact HO3.out.rd HM.out (by omega)) (by omega)).mono ?_
    rintro e w4 ⟨v4, rfl, hown4, hb4⟩
    obtain ⟨r, hr⟩ : ∃ r, r = Pag.pack ⟨p.kind, p.next, p.cells⟩ := ⟨_, rfl⟩
    rw [← hr] at hown4 ⊢
    have HR := hide hr
    have HB4 := hide (HB3.out.trans (hb4.mono (by omega)))
    have HK4 := hide (HK3.out.below hb4 (by omega))
    have HK4' := hide (HK3'.out.below hb4 hs3)
    have HO4 := hide (HO3.out.below hb4 (by omega))
    have hs4 := hb4.size
    obtain ⟨A4, c4, rfl⟩ := own_sl hown4
    have HOb := hide hown4
    clear hown4 hb4 hr p0 p1 p2
    have p0 := HK4'.out.cell 0
    have p1 := HK4'.out.cell 1
    have p2 := HK4'.out.cell 2
    have q0 := HK4.out.cell 0
    have q1 := HK4.out.cell 1
    have q2 := HK4.out.cell 2
    have f0 := HK4.out.frozen 0
    have f1 := HK4.out.frozen 1
    have f2 := HK4.out.frozen 2
    simp at p0 p1 p2 q0 q1 q2
    by_cases h0 : r.1 = 0
    · have t0 : ((r.1 : Int) != 0) = false := by simp [h0]
      by_cases h1 : r.2 = l
      · have HP := hide (Pag.unpB_yes HRd.out (show Pag.pack p = (0, l) by rw [← h0, ← h1]; exact HR.out.symm))
        have e1 : (r.2 == l) = true := by simp [h1]
        clear h0 h1
        go_wp2_with fail
        with_reducible refine (same_any _ _ _ _ _ _ r.2 l _ _ _ (Rb.own HOb.out) (by exact HL.out.below HB4.out (Nat.le_refl _))).mono ?_
        rintro e w' ⟨rfl, rfl⟩
        rw [e1]
        clear e1
        go_wp2_with fail
        refine bodyPost_ret (v := .tuple #[.agg #[.int .u8 (p.kind.toNat : Int), .int .i64 p.next, .slice Av m cv], .int .i64 0]) (results_page rfl (blk3 HK4.out _ _ _) rfl rfl) rfl (UnP.some HP.out (below3 HB4.out (Nat.le_refl _) _ _ _) ⟨Av, cv, by rw [HM.out], ?_⟩)
        have ho := HO4.out.base (lo' := w.heap.size) (Nat.le_of_lt hs1) (Nat.zero_le _)
        rw [HM.out] at ho
        exact ((ho.box HK4.out (Nat.le_refl _) 0 _).box (by simpa using HK4.out.put 0 (.int .u8 (p.kind.toNat : Int))) (Nat.le_refl _) 1 _).box (by simpa using (HK4.out.put 0 (.int .u8 (p.kind.toNat : Int))).put 1 (.int .i64 p.next)) (Nat.le_refl _) 2 _
      · have HP := hide (Pag.unpB_no HRd.out (ne_pack HR.out (.inr h1)))
        have e1 : (r.2 == l) = false := by simp [h1]
        clear h0 h1
        go_wp2_with fail
        with_reducible refine (same_any _ _ _ _ _ _ r.2 l _ _ _ (Rb.own HOb.out) (by exact HL.out.below HB4.out (Nat.le_refl _))).mono ?_
        rintro e w' ⟨rfl, rfl⟩
        rw [e1]
        clear e1
        go_wp2_with fail
        exact bodyPost_ret (v := .tuple #[.agg #[.int .u8 0, .int .i64 0, .slice none 0 0], .int .i64 170]) (results_page rfl (blk3 HK4.out _ _ _) rfl rfl) rfl (UnP.none HP.out (below3 HB4.out (Nat.le_refl _) _ _ _))
    · have HP := hide (Pag.unpB_no HRd.out (ne_pack HR.out (.inl h0)))
      have t0 : ((r.1 : Int) != 0) = true := by simp; omega
      clear h0
      go_wp2_with fail
      exact bodyPost_ret (v := .tuple #[.agg #[.int .u8 0, .int .i64 0, .slice none 0 0], .int .i64 170]) (results_page rfl (blk3 HK4.out _ _ _) rfl rfl) rfl (UnP.none HP.out (below3 HB4.out (Nat.le_refl _) _ _ _))
end Go.Proofs.Ytpoilndlfbmhgaa
