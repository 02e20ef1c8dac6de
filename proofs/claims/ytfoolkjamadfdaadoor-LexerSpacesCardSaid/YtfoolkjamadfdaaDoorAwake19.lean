/-
  The walk of chancerylaw19.awake: it returns true. Conditions: the library's number is an int.
-/
import Derived.Test.YtfoolkjamadfdaaDoorLexW
namespace Go.Proofs.YtfoolkjamadfdaaDoor
open Go.RowKit

theorem TE.is {w w' : World} {p : List Lex.Tok × Nat × Nat} {e : Ending} {ts : List Lex.Tok} {a b : Nat} (h : TE w p e w') (hp : p = (ts, a, b)) : ∃ A c, e = .returned (.tuple #[.slice A ts.length c, .agg #[.int .i64 (a : Int), .int .i64 (b : Int)]]) ∧ w'.ownsRow w.heap.size 32 3 (.slice A ts.length c) ts.length (tcells ts) ∧ Below w.heap.size w w' ∧ ts.length ≤ c ∧ c ≤ maxLen := by
  subst hp
  obtain ⟨v, rfl, ho, hb⟩ := h
  obtain ⟨A, c, rfl, _, h1, h2⟩ := own_form ho
  exact ⟨A, c, rfl, ho, hb, h1, h2⟩
def tk1 : List Lex.Tok := [(1, [97], 0), (5, [46], 1), (1, [98], 2), (5, [60, 62], 3), (3, [105, 116, 39, 115], 5)]
def tk3 : List Lex.Tok := [(4, [0, 255], 0), (2, [49, 46, 53, 48], 8)]
theorem told1 : Lex.told (⟨#[97, 46, 98, 60, 62, 39, 105, 116, 39, 39, 115, 39, 32, 45, 45, 32, 120]⟩ : ByteArray).data.toList = (tk1, 0, 0) := by rfl
theorem told2 : Lex.told (⟨#[97, 32, 35, 32, 98]⟩ : ByteArray).data.toList = ([], 290, 2) := by rfl
theorem told3 : Lex.told (⟨#[120, 39, 48, 48, 102, 102, 39, 32, 49, 46, 53, 48]⟩ : ByteArray).data.toList = (tk3, 0, 0) := by rfl
theorem name_a : Lex.name (⟨#[97]⟩ : ByteArray).data.toList = true := by decide +kernel
theorem name_select : Lex.name (⟨#[115, 101, 108, 101, 99, 116]⟩ : ByteArray).data.toList = false := by decide +kernel
theorem reserved_select : Lex.reserved (⟨#[115, 101, 108, 101, 99, 116]⟩ : ByteArray).data.toList = true := by decide +kernel
/-- The library's number: a cell of the world that no call of ours turns. -/
def Num (w : World) (m : Int) : Prop := w.cell? ⟨0, 0, none⟩ = some (.int .i64 m)
theorem Num.cell {w : World} {m : Int} (h : Num w m) : w.cell? ⟨0, 0, none⟩ = some (.int .i64 m) := h
theorem Num.pos {w : World} {m : Int} (h : Num w m) : 0 < w.heap.size := World.block_lt_of_cell? w ⟨0, 0, none⟩ h
theorem Num.below {w w' : World} {m : Int} {C : Nat} (h : Num w m) (hb : Below C w w') (hC : 0 < C) : Num w' m := (hb.cell (p := ⟨0, 0, none⟩) hC).trans h
theorem Num.drewE {w w' : World} {m : Int} {q : Nat} (h : Num w m) (e : w' = w.drewN q) : Num w' m := by rw [e]; exact h
theorem Num.alloc {w : World} {m : Int} (h : Num w m) (o : Obj) : Num (w.alloc o) m := h.below ((Below.refl w.heap.size w).alloc (Nat.le_refl _) o) h.pos
theorem own_cells {w : World} {base n c : Nat} {A : Option Addr} {ts : List Lex.Tok} (h : w.ownsRow base 32 3 (.slice A n c) n (tcells ts)) (hn : 0 < n) : ∃ g, A = some ⟨g, 0, none⟩ ∧ ∀ i t, ts[i]? = some t → w.cell? ⟨g, i * 3, none⟩ = some (.int .u8 (t.1.toNat : Int)) ∧ w.cell? ⟨g, i * 3 + 1, none⟩ = some (.string ⟨t.2.1.toArray⟩) ∧ w.cell? ⟨g, i * 3 + 2, none⟩ = some (.int .i64 ((t.2.2 : Nat) : Int)) := by
  obtain ⟨g, cap, hv, _, _, _, _⟩ := own_pos h hn
  injection hv with e1 _ e3
  subst e1 e3
  refine ⟨g, rfl, fun i t ht => ?_⟩
  obtain ⟨h1, h2, h3⟩ := tcells_at ts i t ht
  have hlt : i < ts.length := (List.getElem?_eq_some_iff.1 ht).1
  have hl := h.1
  rw [tcells_len] at hl
  exact ⟨(World.ownsRow.cellAt h _ (by omega)).trans h1, (World.ownsRow.cellAt h _ (by omega)).trans h2, (World.ownsRow.cellAt h _ (by omega)).trans h3⟩

set_option maxRecDepth 20000 in
set_option maxHeartbeats 8000000 in
theorem awake_any (m : Int) (w : World) (hM : Num w m) : Calls Tryd.prog 5 #[] w fun e w' => e = .returned (.bool true) ∧ Below w.heap.size w w' := by
  have hpos := hM.pos
  have HM0 := hide hM
  clear hM
  go_enter Tryd.func5, Tryd.ntmps5
  go_wp2_with fail
  obtain ⟨w0, hw0⟩ : ∃ x, x = w := ⟨_, rfl⟩
  have HB0 : Hid (Below w.heap.size w w0) := by rw [hw0]; exact Below.refl _ _
  have hz0 : w.heap.size ≤ w0.heap.size := by rw [hw0]; exact Nat.le_refl _
  rw [← hw0] at HM0 ⊢
  have HM := HM0
  clear hw0 HM0
  with_reducible refine (tokens_any ⟨#[97, 46, 98, 60, 62, 39, 105, 116, 39, 39, 115, 39, 32, 45, 45, 32, 120]⟩ w0 (by decide)).mono ?_
  rintro e w1 hpost
  obtain ⟨A1, c1, rfl, ho1, hb1, hlc1, hcm1⟩ := hpost.is told1
  clear hpost
  rw [show tk1.length = 5 from rfl] at ho1 hlc1 ⊢
  have HO1 := hide (show Own _ _ _ _ _ _ _ from ho1)
  clear ho1
  replace HM := hide (HM.out.below hb1 (by omega))
  have HB1 := hide (HB0.out.trans (hb1.mono (by omega)))
  have hz1 := hb1.size
  clear hb1 HB0
  go_wp2_with fail
  obtain ⟨w2, hw2⟩ : ∃ x, x = w1.alloc (.cells #[.int .i64 0, .int .i64 0] 25) := ⟨_, rfl⟩
  rw [← hw2]
  have hba2 : Below w1.heap.size w1 w2 := by rw [hw2]; exact (Below.refl _ _).alloc (Nat.le_refl _) _
  have hst2 : w1.heap.size < w2.heap.size := by rw [hw2]; simp
  have HF1 : Hid (Blk w2 w1.heap.size 25 #[.int .i64 0, .int .i64 0]) := by rw [hw2]; exact Blk.new _ _ _
  clear hw2
  replace HM := hide (HM.out.below hba2 (by omega))
  replace HO1 := hide (HO1.out.below hba2 (by omega))
  have HB2 := hide (HB1.out.trans (hba2.mono (by omega)))
  have hz2 := hba2.size
  clear hba2 HB1
  with_reducible refine (tokens_any ⟨#[97, 32, 35, 32, 98]⟩ w2 (by decide)).mono ?_
  rintro e w3 hpost
  obtain ⟨A2, c2, rfl, ho2, hb3, hlc2, hcm2⟩ := hpost.is told2
  clear hpost
  have HO2 := hide (show Own _ _ _ _ _ _ _ from ho2)
  clear ho2
  replace HM := hide (HM.out.below hb3 (by omega))
  replace HO1 := hide (HO1.out.below hb3 (by omega))
  replace HF1 := hide (HF1.out.below hb3 (by omega))
  have HB3 := hide (HB2.out.trans (hb3.mono (by omega)))
  have hz3 := hb3.size
  clear hb3 HB2
  go_wp2_with fail
  obtain ⟨w4, hw4⟩ : ∃ x, x = w3.alloc (.cells #[.int .i64 290, .int .i64 2] 25) := ⟨_, rfl⟩
  rw [← hw4]
  have hba4 : Below w3.heap.size w3 w4 := by rw [hw4]; exact (Below.refl _ _).alloc (Nat.le_refl _) _
  have hst4 : w3.heap.size < w4.heap.size := by rw [hw4]; simp
  have HF2 : Hid (Blk w4 w3.heap.size 25 #[.int .i64 290, .int .i64 2]) := by rw [hw4]; exact Blk.new _ _ _
  clear hw4
  replace HM := hide (HM.out.below hba4 (by omega))
  replace HO1 := hide (HO1.out.below hba4 (by omega))
  replace HF1 := hide (HF1.out.below hba4 (by omega))
  replace HO2 := hide (HO2.out.below hba4 (by omega))
  have HB4 := hide (HB3.out.trans (hba4.mono (by omega)))
  have hz4 := hba4.size
  clear hba4 HB3
  with_reducible refine (tokens_any ⟨#[120, 39, 48, 48, 102, 102, 39, 32, 49, 46, 53, 48]⟩ w4 (by decide)).mono ?_
  rintro e w5 hpost
  obtain ⟨A3, c3, rfl, ho3, hb5, hlc3, hcm3⟩ := hpost.is told3
  clear hpost
  rw [show tk3.length = 2 from rfl] at ho3 hlc3 ⊢
  have HO3 := hide (show Own _ _ _ _ _ _ _ from ho3)
  clear ho3
  replace HM := hide (HM.out.below hb5 (by omega))
  replace HO1 := hide (HO1.out.below hb5 (by omega))
  replace HF1 := hide (HF1.out.below hb5 (by omega))
  replace HO2 := hide (HO2.out.below hb5 (by omega))
  replace HF2 := hide (HF2.out.below hb5 (by omega))
  have HB5 := hide (HB4.out.trans (hb5.mono (by omega)))
  have hz5 := hb5.size
  clear hb5 HB4
  have f1a : w5.cell? ⟨w1.heap.size, 0, none⟩ = some (.int .i64 0) := HF1.out.cell 0
  have f1b : w5.cell? ⟨w1.heap.size, 1, none⟩ = some (.int .i64 0) := HF1.out.cell 1
  have f1l := HF1.out.lt
  have f2a : w5.cell? ⟨w3.heap.size, 0, none⟩ = some (.int .i64 290) := HF2.out.cell 0
  have f2b : w5.cell? ⟨w3.heap.size, 1, none⟩ = some (.int .i64 2) := HF2.out.cell 1
  have f2l := HF2.out.lt
  obtain ⟨gl, rfl, hcl⟩ := own_cells HO1.out.row (by decide)
  obtain ⟨gm, rfl, hcm⟩ := own_cells HO3.out.row (by decide)
  have hgl : gl < w5.heap.size := (HO1.out.row.lt gl rfl).2
  have hgm : gm < w5.heap.size := (HO3.out.row.lt gm rfl).2
  have l9 : w5.cell? ⟨gl, 9, none⟩ = some (.int .u8 5) := (hcl 3 _ rfl).1
  have l10 : w5.cell? ⟨gl, 10, none⟩ = some (.string ⟨#[60, 62]⟩) := (hcl 3 _ rfl).2.1
  have l11 : w5.cell? ⟨gl, 11, none⟩ = some (.int .i64 3) := (hcl 3 _ rfl).2.2
  have l12 : w5.cell? ⟨gl, 12, none⟩ = some (.int .u8 3) := (hcl 4 _ rfl).1
  have l13 : w5.cell? ⟨gl, 13, none⟩ = some (.string ⟨#[105, 116, 39, 115]⟩) := (hcl 4 _ rfl).2.1
  have l14 : w5.cell? ⟨gl, 14, none⟩ = some (.int .i64 5) := (hcl 4 _ rfl).2.2
  have m1 : w5.cell? ⟨gm, 1, none⟩ = some (.string ⟨#[0, 255]⟩) := (hcm 0 _ rfl).2.1
  have m4 : w5.cell? ⟨gm, 4, none⟩ = some (.string ⟨#[49, 46, 53, 48]⟩) := (hcm 1 _ rfl).2.1
  have e1 := neqF
  have e2 := guardF
  have e3 := eqlT
  have e4 := guardT
  clear hcl hcm
  go_wp2_with fail
  clear e1 e2 e3 e4 l9 l10 l11 l12 l13 l14 m1 m4 f1a f1b f2a f2b
  have HMa := hide (HM.out.alloc (.cells #[.int .i64 0, .int .i64 0] 25))
  with_reducible refine (name_any ⟨#[97]⟩ m _ (by decide) HMa.out.cell).mono ?_
  rintro e w' ⟨rfl, rfl⟩
  rw [name_a]
  go_wp2_with fail
  with_reducible refine (name_any ⟨#[115, 101, 108, 101, 99, 116]⟩ m _ (by decide) HMa.out.cell).mono ?_
  rintro e w' ⟨rfl, rfl⟩
  rw [name_select]
  go_wp2_with fail
  with_reducible refine (reserved_any ⟨#[115, 101, 108, 101, 99, 116]⟩ m _ (by decide) HMa.out.cell).mono ?_
  rintro e w' ⟨rfl, rfl⟩
  rw [reserved_select]
  go_wp2_with fail
  go_ret
  exact ⟨rfl, HB5.out.alloc (by omega) _⟩
end Go.Proofs.YtfoolkjamadfdaaDoor
