/-
  The walk of chanceryref19.Tokens: it is Lex.told. Conditions: the text's length is an int.
-/
import Derived.Test.YtfoolkjamadfdaaLexK
import Derived.Test.YtfoolkjamadfdaaRefLexG
namespace Go.Proofs.Ytfoolkjamadfdaa
open Go.RowKit

theorem TQ.case {w w' : World} {at_ : Nat} {o : Option (UInt8 × List UInt8 × Nat)} {e : Ending} (h : TQ w at_ o e w') : (o = none ∧ ∃ k s a n, e = .returned (.tuple #[.agg #[.int .u8 k, .string s, .int .i64 a], .int .i64 n, .bool false]) ∧ Below w.heap.size w w') ∨ ∃ k s n, o = some (k, s, n) ∧ e = .returned (.tuple #[.agg #[.int .u8 (k.toNat : Int), .string ⟨s.toArray⟩, .int .i64 (at_ : Int)], .int .i64 ((at_ + n : Nat) : Int), .bool true]) ∧ Below w.heap.size w w' := by
  match o, h with
  | none, h => exact .inl ⟨rfl, h⟩
  | some (k, s, n), h => exact .inr ⟨k, s, n, rfl, h.1, h.2⟩

set_option maxRecDepth 8000 in
set_option maxHeartbeats 3200000 in
theorem rtokens_any (text : ByteArray) (w : World) (hm : text.size ≤ maxLen) :
    Calls Try.prog 7 #[.string text] w (TE w (Lex.told text.data.toList)) := by
  unfold maxLen at hm
  have HL := hide (str_len text)
  obtain ⟨p, hp⟩ : ∃ p, p = Lex.told text.data.toList := ⟨_, rfl⟩
  rw [← hp]
  have HP := hide hp
  clear hp
  by_cases hlong : 4096 < text.size
  · have HF := hide (HP.out.trans (Lex.told_long (by rw [HL.out]; exact hlong)))
    have t1 : decide ((4096 : Int) < (text.size : Int)) = true := by simp; omega
    clear hlong
    go_enter Try.func7, Try.ntmps7
    go_wp2_with fail
    exact bodyPost_ret (v := .tuple #[.slice none 0 0, .agg #[.int .i64 3, .int .i64 0]]) (by simp [results, Try.results7, go_sem]) rfl (TE.mk HF.out rfl rfl (own_nil _ _ _ _) ((Below.refl _ _).alloc (Nat.le_refl _) _))
  · have t1 : decide ((4096 : Int) < (text.size : Int)) = false := by simp; omega
    have hm2 : text.size ≤ 4096 := by omega
    have HNL : Hid (¬ 4096 < text.data.toList.length) := by rw [HL.out]; exact hlong
    clear hlong hm
    go_enter Try.func7, Try.ntmps7
    go_wp2_with fail
    with_reducible refine (rskip_any text _ 0 _ (by omega) (by omega) (by omega)).mono ?_
    rintro e w' ⟨rfl, rfl⟩
    obtain ⟨k0, hk0⟩ : ∃ x, x = Lex.skipAt text.data.toList 0 := ⟨_, rfl⟩
    have hk0l : k0 ≤ text.size := by
      have := (Lex.skipAt_le text.data.toList 0 (by omega)).2.1
      rw [HL.out] at this
      omega
    have HK0 : Hid (Lex.toks (text.data.toList.length + 1) 0 text.data.toList = Lex.head text.data.toList text.data.toList.length k0) := by
      have := Lex.toks_head text.data.toList text.data.toList.length 0 (by omega)
      rw [List.drop_zero, ← hk0] at this
      exact this
    rw [← hk0]
    clear hk0
    go_wp2_with fail
    go_loopg [4, 5] (text.size - k0) (fun g v i wr => ∃ (k f : Nat) (acc : List Lex.Tok), g = text.size - k ∧ i = .int .i64 (k : Nat) ∧ KR w text.data.toList f k acc v wr)
    case atStart => exact ⟨k0, text.data.toList.length, [], rfl, rfl, by rw [HL.out]; exact hk0l, by simp, by omega, by rw [Lex.pre_nil]; exact HK0.out, own_nil _ _ _ _, (Below.refl _ _).alloc (Nat.le_refl _) _, Blk.new _ _ _, by simp⟩
    case round =>
      obtain ⟨k, f, acc, rfl, rfl, hk, hacc, hf, htk, hown, hbel, hblk, hsz⟩ := hrel
      rw [HL.out] at hk hf
      have HT := hide htk
      have HO1 := hide hown
      have HB := hide hbel
      have HK := hide hblk
      clear htk hown hbel hblk HK0
      by_cases hlt : k < text.size
      · have hkI : (k : Int) < (text.size : Int) := by omega
        have HLt : Hid (¬ text.data.toList.length ≤ k) := by rw [HL.out]; show ¬ _; omega
        go_wp2_with fail
        with_reducible refine (one_any text k _ (by omega) hlt).mono ?_
        intro e w2 hpost
        rcases hpost.case with ⟨hno, k2, s2, a2, n2, rfl, hb2⟩ | ⟨k2, s2, n2, hyes, rfl, hb2⟩
        · have HF := hide (HP.out.trans (Lex.told_error HNL.out (HT.out.trans (Lex.head_bad HLt.out hno))))
          have hblk := HK.out.below hb2 (by omega)
          have HB2 := hide (HB.out.trans (hb2.mono (by omega)))
          have d0 : w2.cell? ⟨w.heap.size, 0, none⟩ = some (.int .i64 0) := hblk.cell 0
          have d1 : w2.cell? ⟨w.heap.size, 1, none⟩ = some (.int .i64 0) := hblk.cell 1
          have f0 := hblk.frozen 0
          have f1 := hblk.frozen 1
          have hlt0 := hblk.lt
          have hne : w.heap.size ≠ w2.heap.size := by omega
          have hz2 := hb2.size
          clear hpost hno hb2 hblk
          go_wp2_with fail
          refine bodyPost_ret (v := .tuple #[.slice none 0 0, .agg #[.int .i64 290, .int .i64 (k : Int)]]) (by simp [results, Try.results7, go_sem, d0, d1, hlt0]) rfl (TE.mk HF.out rfl rfl (own_nil _ _ _ _) ?_)
          exact ((HB2.out.setCell (show w.heap.size ≤ w.heap.size from Nat.le_refl _) _).setCell (show w.heap.size ≤ w.heap.size from Nat.le_refl _) _).alloc (by simp; omega) _
        · have hl2 := Lex.token_len hyes
          rw [List.length_drop, HL.out] at hl2
          obtain ⟨hl2a, hl2b, -⟩ := hl2
          have HN := hide (HT.out.trans (Lex.head_next (acc := acc) HLt.out hyes (by omega)))
          have HO2 := hide (own_below HO1.out hb2)
          have HK2 := hide (HK.out.below hb2 (by omega))
          have HB2 := hide (HB.out.trans (hb2.mono (by omega)))
          have hz2 := hb2.size
          clear hpost hyes hb2 HO1 HK HB HT
          go_wp2_with (at_builtin; refine wpList_appT Try.underlying22 rfl (.tmp 33) (.tmp 35) rfl (w.heap.size + 1) _ acc.length acc rfl (HO2.out.alloc _) 1 (k2, s2, k) (w2.heap.size + 1) (by simp) rfl rfl (by omega) (by simp; omega) ?_; intro v3 w3 hown3 hb3; have HO3 := hide hown3; have HB3 := hide hb3; clear hown3 hb3)
          with_reducible refine (rskip_any text _ (k + n2) _ (by omega) (by omega) (by omega)).mono ?_
          rintro e w' ⟨rfl, rfl⟩
          have hsk := Lex.skipAt_le text.data.toList (k + n2) (by rw [HL.out]; omega)
          rw [HL.out] at hsk
          obtain ⟨hsk1, hsk2, -⟩ := hsk
          obtain ⟨k3, hk3⟩ : ∃ x, x = Lex.skipAt text.data.toList (k + n2) := ⟨_, rfl⟩
          rw [← hk3] at HN hsk1 hsk2 ⊢
          clear hk3
          go_wp2_with fail
          go_roundg (text.size - k3)
          case measure => omega
          case rel =>
            have hz3 := HB3.out.size
            simp at hz3
            refine ⟨k3, f - 1, acc ++ [(k2, s2, k)], rfl, rfl, by rw [HL.out]; exact hsk2, by simp; omega, by rw [HL.out]; omega, HN.out, ?_, ?_, ?_, by omega⟩
            · rw [List.length_append]
              exact HO3.out
            · exact (HB2.out.alloc (by omega) _).trans (HB3.out.mono (by omega))
            · exact (HK2.out.alloc _).below HB3.out (by omega)
      · obtain rfl : k = text.size := by omega
        have HF := hide (HP.out.trans (Lex.told_ok HNL.out (HT.out.trans (Lex.head_end (by rw [HL.out]; exact Nat.le_refl _)))))
        obtain ⟨A1, c1, rfl⟩ := own_sl HO1.out
        have hblk := HK.out
        have d0 : wr.cell? ⟨w.heap.size, 0, none⟩ = some (.int .i64 0) := hblk.cell 0
        have d1 : wr.cell? ⟨w.heap.size, 1, none⟩ = some (.int .i64 0) := hblk.cell 1
        have f0 := hblk.frozen 0
        have f1 := hblk.frozen 1
        have hlt0 := hblk.lt
        clear hblk
        go_wp2_with fail
        refine bodyPost_ret (v := .tuple #[.slice A1 acc.length c1, .agg #[.int .i64 0, .int .i64 0]]) (by simp [results, Try.results7, go_sem, d0, d1]) rfl (TE.mk HF.out rfl rfl ?_ ((HB.out.setCell (Nat.le_refl _) _).setCell (Nat.le_refl _) _))
        exact own_base (ownsRow_setCell_below (ownsRow_setCell_below HO1.out (show w.heap.size < w.heap.size + 1 by omega) _) (show w.heap.size < w.heap.size + 1 by omega) _) (by omega)
end Go.Proofs.Ytfoolkjamadfdaa
