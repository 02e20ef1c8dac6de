/-
  The walk of chanceryref19.one: bytes and texts. Conditions: the text has at most 2^40 bytes. (printed by refone.py)
-/
import Derived.Test.YtfoolkjamadfdaaRefLexC
import Derived.Deep.CutBlock
namespace Go.Proofs.Ytfoolkjamadfdaa
open Go.RowKit

/-- The two blocks of the call, the kind written. -/
def OnK (w w1 : World) (at_ : Nat) (ki : Int) : Prop := Below w.heap.size w w1 ∧ Blk w1 w.heap.size 31 tokZ ∧ Blk w1 (w.heap.size + 1) 31 #[.int .u8 ki, .string ⟨#[]⟩, .int .i64 (at_ : Int)]
theorem On.kind {w w1 : World} {at_ : Nat} (h : On w w1 at_) (ki : Int) : OnK w (w1.setCell ⟨w.heap.size + 1, 0, none⟩ (.int .u8 ki)) at_ ki :=
  ⟨h.1.setCell (Nat.le_succ _) _, h.2.1.far (show w.heap.size ≠ w.heap.size + 1 by omega) _, h.2.2.put 0 _⟩
theorem OnK.below {w w1 w2 : World} {at_ : Nat} {ki : Int} (h : OnK w w1 at_ ki) (hb : Below w1.heap.size w1 w2) : OnK w w2 at_ ki := by
  have l1 := h.2.1.lt
  have l2 := h.2.2.lt
  exact ⟨h.1.trans (hb.mono (by omega)), h.2.1.below hb l1, h.2.2.below hb l2⟩
theorem OnK.cells {w w1 : World} {at_ : Nat} {ki : Int} (h : OnK w w1 at_ ki) : (w1.cell? ⟨w.heap.size, 0, none⟩ = some (.int .u8 0) ∧ w1.cell? ⟨w.heap.size, 1, none⟩ = some (.string ⟨#[]⟩) ∧ w1.cell? ⟨w.heap.size, 2, none⟩ = some (.int .i64 0)) ∧ (w1.cell? ⟨w.heap.size + 1, 0, none⟩ = some (.int .u8 ki) ∧ w1.cell? ⟨w.heap.size + 1, 1, none⟩ = some (.string ⟨#[]⟩) ∧ w1.cell? ⟨w.heap.size + 1, 2, none⟩ = some (.int .i64 (at_ : Int))) ∧ (∀ i, w1.frozen? ⟨w.heap.size, i, none⟩ = false) ∧ ∀ i, w1.frozen? ⟨w.heap.size + 1, i, none⟩ = false :=
  ⟨⟨h.2.1.cell 0, h.2.1.cell 1, h.2.1.cell 2⟩, ⟨h.2.2.cell 0, h.2.2.cell 1, h.2.2.cell 2⟩, h.2.1.frozen, h.2.2.frozen⟩
theorem OnK.four {w w1 : World} {at_ : Nat} {ki : Int} (h : OnK w w1 at_ ki) (u1 v0 v1 v2 : Value) : Below w.heap.size w ((((w1.setCell ⟨w.heap.size + 1, 1, none⟩ u1).setCell ⟨w.heap.size, 0, none⟩ v0).setCell ⟨w.heap.size, 1, none⟩ v1).setCell ⟨w.heap.size, 2, none⟩ v2) :=
  (((h.1.setCell (Nat.le_succ _) _).setCell (Nat.le_refl _) _).setCell (Nat.le_refl _) _).setCell (Nat.le_refl _) _
theorem SP.parts {w w' : World} {at_ : Nat} {o : Option (UInt8 × List UInt8 × Nat)} {e : Ending} (h : SP w at_ o e w') : ∃ s n b, e = .returned (.tuple #[.string s, .int .i64 n, .bool b]) ∧ Below w.heap.size w w' ∧ ∀ (ki : Int) (w0 w'' : World), (∀ k s n, o = some (k, s, n) → ki = (k.toNat : Int)) → Below w0.heap.size w0 w'' → TQ w0 at_ o (.returned (.tuple #[.agg #[.int .u8 ki, .string s, .int .i64 (at_ : Int)], .int .i64 n, .bool b])) w'' := by
  match o, h with
  | none, h =>
    obtain ⟨s, n, rfl, hb⟩ := h
    exact ⟨s, n, false, rfl, hb, fun _ _ _ _ hb' => TQ.no rfl hb'⟩
  | some (k, s, n), h =>
    obtain ⟨rfl, hb⟩ := h
    exact ⟨_, _, _, rfl, hb, fun _ _ _ hk hb' => TQ.yes rfl (hk k s n rfl) rfl rfl hb'⟩
theorem kind4 (l : List UInt8) : ∀ (k : UInt8) (s : List UInt8) (n : Nat), Lex.pairsT l = some (k, s, n) → (4 : Int) = (k.toNat : Int) := by
  intro k s n h
  unfold Lex.pairsT at h
  repeat' split at h
  · cases h
  · injection h with h; injection h with h; rw [← h]; rfl
  · cases h
theorem kind3 (l : List UInt8) : ∀ (k : UInt8) (s : List UInt8) (n : Nat), Lex.quoteT l = some (k, s, n) → (3 : Int) = (k.toNat : Int) := by
  intro k s n h
  unfold Lex.quoteT at h
  repeat' split at h
  · cases h
  · injection h with h; injection h with h; rw [← h]; rfl
  · cases h

set_option maxRecDepth 100000 in
set_option maxHeartbeats 6400000 in
theorem one_bytes (text : ByteArray) (at_ : Nat) (w : World) (hm : text.size ≤ 1099511627776) (hat : at_ < text.size) (c : UInt8) (hc : text.data.toList[at_]? = some c) (h120 : c.toNat = 120) (h39 : Lex.isAt text.data.toList (at_ + 1) 39 = true) :
    Calls Try.prog 18 #[.string text, .int .i64 (at_ : Int)] w (TQ w at_ (Lex.token (text.data.toList.drop at_))) := by
  have HL := hide (str_len text)
  obtain ⟨o, ho⟩ : ∃ o, o = Lex.token (text.data.toList.drop at_) := ⟨_, rfl⟩
  rw [← ho]
  have HW : Hid (o = Lex.pairsT (text.data.toList.drop at_)) := by
    show _ = _
    rw [ho, token_drop hc, if_pos ⟨h120, h39⟩]
  have hs : text[at_] = c := by
    obtain ⟨d, h1, h2⟩ := str_at hat
    rw [hc] at h1
    injection h1 with h1
    rw [h1]
    exact h2
  have hcl := c.toNat_lt
  have hat1 : at_ + 1 < text.size := by
    have h := h39
    unfold Lex.isAt at h
    rw [decide_eq_true_eq] at h
    have := (List.getElem?_eq_some_iff.1 h).1
    rw [HL.out] at this
    exact this
  have q120 : ((c.toNat : Int) == 120) = true := by simp; omega
  have H39 := hide h39
  clear ho hc h120 h39
  go_enter Try.func18, Try.ntmps18
  go_wp2_with fail
  with_reducible refine (rat_any text _ (at_ + 1) _ (by omega)).mono ?_
  rintro e w1 ⟨rfl, hw1⟩
  obtain ⟨a, ha⟩ : ∃ a, a = atB text.data.toList (at_ + 1) := ⟨_, rfl⟩
  have qa := at_is text.data.toList (at_ + 1) 39 (by decide) 39 rfl
  rw [← ha, H39.out] at qa
  rw [← ha]
  clear ha
  have HOn : Hid (On w w1 at_) := by rw [← hw1]; exact On.new w at_
  clear hw1
  obtain ⟨⟨a0, a1, a2⟩, ⟨b0, b1', b2'⟩, fa, fb⟩ := HOn.out.cells
  have fa0 := fa 0
  have fa1 := fa 1
  have fa2 := fa 2
  have fb0 := fb 0
  have fb1 := fb 1
  have fb2 := fb 2
  have la := HOn.out.2.1.lt
  have lb := HOn.out.2.2.lt
  clear fa fb
  go_wp2_with fail
  with_reducible refine (paired_any text _ at_ _ (by omega) hm hat1).mono ?_
  intro e w3 hpost
  obtain ⟨s2, n2, ok2, rfl, hb3, hre⟩ := hpost.parts
  have HRe := hide hre
  have HO3 := hide ((HOn.out.kind 4).below hb3)
  clear hpost hre hb3 a0 a1 a2 b0 b1' b2' fa0 fa1 fa2 fb0 fb1 fb2 la lb HOn
  obtain ⟨⟨a0, a1, a2⟩, ⟨b0, b1', b2'⟩, fa, fb⟩ := HO3.out.cells
  have fa0 := fa 0
  have fa1 := fa 1
  have fa2 := fa 2
  have fb0 := fb 0
  have fb1 := fb 1
  have fb2 := fb 2
  have la := HO3.out.2.1.lt
  have lb := HO3.out.2.2.lt
  clear fa fb
  go_wp2_with fail
  refine bodyPost_ret (v := .tuple #[.agg #[.int .u8 4, .string s2, .int .i64 (at_ : Int)], .int .i64 n2, .bool ok2]) (by simp [results, Try.results18, go_sem, a0, a1, a2]) rfl ?_
  rw [HW.out]
  exact HRe.out 4 w _ (kind4 _) (HO3.out.four _ _ _ _)

set_option maxRecDepth 100000 in
set_option maxHeartbeats 6400000 in
theorem one_quote (text : ByteArray) (at_ : Nat) (w : World) (hm : text.size ≤ 1099511627776) (hat : at_ < text.size) (c : UInt8) (hc : text.data.toList[at_]? = some c) (h39 : c.toNat = 39) :
    Calls Try.prog 18 #[.string text, .int .i64 (at_ : Int)] w (TQ w at_ (Lex.token (text.data.toList.drop at_))) := by
  have HL := hide (str_len text)
  obtain ⟨o, ho⟩ : ∃ o, o = Lex.token (text.data.toList.drop at_) := ⟨_, rfl⟩
  rw [← ho]
  have HW : Hid (o = Lex.quoteT (text.data.toList.drop at_)) := by
    show _ = _
    rw [ho, token_drop hc, if_neg (by omega), if_neg (by simp [Lex.letter]; omega), if_neg (by simp [Lex.digit]; omega), if_pos h39]
  have hs : text[at_] = c := by
    obtain ⟨d, h1, h2⟩ := str_at hat
    rw [hc] at h1
    injection h1 with h1
    rw [h1]
    exact h2
  have hcl := c.toNat_lt
  have HLt : Hid (Lex.letter c = false) := by show _ = _; simp [Lex.letter]; omega
  have HDg : Hid (Lex.digit c = false) := by show _ = _; simp [Lex.digit]; omega
  have q120 : ((c.toNat : Int) == 120) = false := by simp; omega
  have q39 : ((c.toNat : Int) == 39) = true := by simp; omega
  clear ho hc h39
  go_enter Try.func18, Try.ntmps18
  go_wp2_with fail
  with_reducible refine (rletter_any c _).mono ?_
  rintro e w1 ⟨rfl, hw1⟩
  rw [HLt.out]
  have HOn : Hid (On w w1 at_) := by rw [← hw1]; exact On.new w at_
  clear hw1
  go_wp2_with fail
  with_reducible refine (rdigit_any c _).mono ?_
  rintro e w' ⟨rfl, rfl⟩
  rw [HDg.out]
  obtain ⟨⟨a0, a1, a2⟩, ⟨b0, b1', b2'⟩, fa, fb⟩ := HOn.out.cells
  have fa0 := fa 0
  have fa1 := fa 1
  have fa2 := fa 2
  have fb0 := fb 0
  have fb1 := fb 1
  have fb2 := fb 2
  have la := HOn.out.2.1.lt
  have lb := HOn.out.2.2.lt
  clear fa fb
  go_wp2_with fail
  with_reducible refine (rquoted_any text at_ _ hm hat).mono ?_
  intro e w3 hpost
  obtain ⟨s2, n2, ok2, rfl, hb3, hre⟩ := hpost.parts
  have HRe := hide hre
  have HO3 := hide ((HOn.out.kind 3).below hb3)
  clear hpost hre hb3 a0 a1 a2 b0 b1' b2' fa0 fa1 fa2 fb0 fb1 fb2 la lb HOn
  obtain ⟨⟨a0, a1, a2⟩, ⟨b0, b1', b2'⟩, fa, fb⟩ := HO3.out.cells
  have fa0 := fa 0
  have fa1 := fa 1
  have fa2 := fa 2
  have fb0 := fb 0
  have fb1 := fb 1
  have fb2 := fb 2
  have la := HO3.out.2.1.lt
  have lb := HO3.out.2.2.lt
  clear fa fb
  go_wp2_with fail
  refine bodyPost_ret (v := .tuple #[.agg #[.int .u8 3, .string s2, .int .i64 (at_ : Int)], .int .i64 n2, .bool ok2]) (by simp [results, Try.results18, go_sem, a0, a1, a2]) rfl ?_
  rw [HW.out]
  exact HRe.out 3 w _ (kind3 _) (HO3.out.four _ _ _ _)
end Go.Proofs.Ytfoolkjamadfdaa
