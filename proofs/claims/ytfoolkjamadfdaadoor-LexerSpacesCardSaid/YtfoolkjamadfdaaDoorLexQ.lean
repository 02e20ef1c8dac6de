/-
  The walk of the lexer's quoted. Conditions: the text has at most 2^40 bytes.
-/
import Derived.Test.YtfoolkjamadfdaaDoorLexS
namespace Go.Proofs.YtfoolkjamadfdaaDoor
open Go.RowKit

theorem quote_other {c : UInt8} {r : List UInt8} (h : c.toNat ≠ 39) : Lex.quote (c :: r) = (Lex.quote r).map (fun p => (c :: p.1, p.2)) := by
  cases r with
  | nil => simp [Lex.quote, h]
  | cons d r => simp only [Lex.quote]; rw [if_neg h]
theorem quote_two {c d : UInt8} {r : List UInt8} (hc : c.toNat = 39) (hd : d = 39) : Lex.quote (c :: d :: r) = (Lex.quote r).map (fun p => (39 :: p.1, p.2)) := by
  simp only [Lex.quote]
  rw [if_pos hc, if_pos (by rw [hd]; rfl)]
theorem quote_done {c : UInt8} {r : List UInt8} (hc : c.toNat = 39) (h : Lex.isAt r 0 39 = false) : Lex.quote (c :: r) = some ([], r) := by
  cases r with
  | nil => simp [Lex.quote, hc]
  | cons d r =>
    simp only [Lex.quote]
    rw [if_pos hc, if_neg]
    intro hd
    have : d = 39 := UInt8.toNat_inj.1 (by rw [hd]; rfl)
    simp [Lex.isAt, this] at h
def tokZ : Array Value := #[.int .u8 0, .string ⟨#[]⟩, .int .i64 0]
/-- What holds at the head of a round. -/
def QR (w : World) (l : List UInt8) (at_ k : Nat) (acc : List UInt8) (v : Value) (wr : World) : Prop :=
  k ≤ l.length ∧ acc.length ≤ k ∧ Lex.quote (l.drop (at_ + 1)) = (Lex.quote (l.drop k)).map (fun p => (acc ++ p.1, p.2)) ∧ wr.ownsRow (w.heap.size + 1) 5 1 v acc.length (acc.map B8) ∧ Below w.heap.size w wr ∧ Blk wr w.heap.size 32 tokZ ∧ w.heap.size + 1 ≤ wr.heap.size
theorem quoteT_some {l : List UInt8} {at_ k : Nat} {acc : List UInt8} (hk : k ≤ l.length) (h : Lex.quote (l.drop (at_ + 1)) = some (acc, l.drop k)) : Lex.quoteT (l.drop at_) = if acc.length ≤ 200 then some (3, acc, k - at_) else none := by
  unfold Lex.quoteT
  rw [List.drop_drop, h]
  simp only [List.length_drop]
  rw [show l.length - at_ - (l.length - k) = k - at_ by omega]
theorem quoteT_none {l : List UInt8} {at_ : Nat} (h : Lex.quote (l.drop (at_ + 1)) = none) : Lex.quoteT (l.drop at_) = none := by
  unfold Lex.quoteT
  rw [List.drop_drop, h]

set_option maxHeartbeats 1600000 in
theorem quoted_any (text : ByteArray) (at_ : Nat) (w : World) (hm : text.size ≤ 1099511627776) (hat : at_ < text.size) :
    Calls Tryd.prog 22 #[.string text, .int .i64 (at_ : Int)] w (TP w at_ (Lex.quoteT (text.data.toList.drop at_))) := by
  have HL := hide (str_len text)
  obtain ⟨o, ho⟩ : ∃ o, o = Lex.quoteT (text.data.toList.drop at_) := ⟨_, rfl⟩
  have HO := hide ho
  rw [← ho]
  clear ho
  go_enter Tryd.func22, Tryd.ntmps22
  go_wp2_with fail
  go_loopg [7, 8] (text.size - (at_ + 1)) (fun g v i wr => ∃ (k : Nat) (acc : List UInt8), i = .int .i64 (k : Nat) ∧ g = text.size - k ∧ at_ < k ∧ QR w text.data.toList at_ k acc v wr)
  case atStart => exact ⟨at_ + 1, [], by go_num, rfl, by omega, by rw [HL.out]; omega, by simp, by simp, own_nil _ _ _ _, (Below.refl _ _).alloc (Nat.le_refl _) _, Blk.new _ _ _, by simp⟩
  case round =>
    obtain ⟨k, acc, rfl, rfl, hak, hk, hacc, hq, hown, hbel, hblk, hsz⟩ := hrel
    rw [HL.out] at hk
    have HQ := hide hq
    have HO1 := hide hown
    have HB := hide hbel
    have HK := hide hblk
    have d0 : wr.cell? ⟨w.heap.size, 0, none⟩ = some (.int .u8 0) := hblk.cell 0
    have d1 : wr.cell? ⟨w.heap.size, 1, none⟩ = some (.string ⟨#[]⟩) := hblk.cell 1
    have d2 : wr.cell? ⟨w.heap.size, 2, none⟩ = some (.int .i64 0) := hblk.cell 2
    have f0 := hblk.frozen 0
    have f1 := hblk.frozen 1
    have f2 := hblk.frozen 2
    have hlt0 := hblk.lt
    clear hq hown hbel hblk
    by_cases hlt : k < text.size
    · obtain ⟨c, hc, hs⟩ := str_at hlt
      have HC := hide (drop_at hc)
      have hcl := c.toNat_lt
      have hkI : (k : Int) < (text.size : Int) := by omega
      clear hc
      by_cases h39 : c.toNat = 39
      · have q39 : ((c.toNat : Int) == 39) = true := by simp; omega
        obtain ⟨b1, hb1⟩ : ∃ b, b = Lex.isAt text.data.toList (k + 1) 39 := ⟨_, rfl⟩
        have H1 := hide hb1
        clear hb1
        go_wp2_with fail
        with_reducible refine (is_any text _ (k + 1) 39 _ _ (by omega) b39).mono ?_
        rintro e w' ⟨rfl, rfl⟩
        rw [← H1.out]
        cases b1 with
        | false =>
          have HE : Hid (Lex.quote (text.data.toList.drop (at_ + 1)) = some (acc, text.data.toList.drop (k + 1))) := by
            show _ = _
            rw [HQ.out, HC.out, quote_done h39 (by rw [Lex.isAt_drop]; exact H1.out.symm)]
            simp
          have HT := hide (HO.out.trans (quoteT_some (by rw [HL.out]; omega) HE.out))
          obtain ⟨A1, c1, rfl, -, -, -⟩ := own_form HO1.out
          have ec := (Rb.own HO1.out).run_string (P := Tryd.prog) 45 5 9 c1 Tryd.underlying45 Tryd.underlying5 Tryd.underlying9
          by_cases h200 : acc.length ≤ 200
          · have HF := hide (HT.out.trans (if_pos h200))
            have t2 : decide ((acc.length : Int) ≤ 200) = true := by simp; omega
            clear h39 h200
            go_wp2_with fail
            exact bodyPost_ret (v := .tuple #[.agg #[.int .u8 3, .string ⟨acc.toArray⟩, .int .i64 0], .int .i64 ((k : Int) + 1), .bool true]) (by simp [results, Tryd.results22, go_sem, d0, d1, d2]) rfl (TP.yes HF.out rfl rfl (by omega) (((HB.out.setCell (Nat.le_refl _) _).setCell (Nat.le_refl _) _).setCell (Nat.le_refl _) _))
          · have HF := hide (HT.out.trans (if_neg h200))
            have t2 : decide ((acc.length : Int) ≤ 200) = false := by simp; omega
            clear h39 h200
            go_wp2_with fail
            exact bodyPost_ret (v := .tuple #[.agg #[.int .u8 3, .string ⟨acc.toArray⟩, .int .i64 0], .int .i64 ((k : Int) + 1), .bool false]) (by simp [results, Tryd.results22, go_sem, d0, d1, d2]) rfl (TP.no HF.out (((HB.out.setCell (Nat.le_refl _) _).setCell (Nat.le_refl _) _).setCell (Nat.le_refl _) _))
        | true =>
          have h1 := H1.out.symm
          unfold Lex.isAt at h1
          rw [decide_eq_true_eq] at h1
          have hk2 : k + 1 < text.size := by have := (List.getElem?_eq_some_iff.1 h1).1; rw [HL.out] at this; exact this
          obtain ⟨c2, hc2, hs2⟩ := str_at hk2
          obtain rfl : c2 = 39 := by rw [h1] at hc2; injection hc2 with hc2; exact hc2.symm
          have HN : Hid (Lex.quote (text.data.toList.drop (at_ + 1)) = (Lex.quote (text.data.toList.drop (k + 2))).map (fun p => ((acc ++ [39]) ++ p.1, p.2))) := by
            show _ = _
            rw [HQ.out, HC.out, drop_at h1, quote_two h39 rfl, Option.map_map]
            congr 1
            funext p
            simp
          have I1 : (k : Int) + 1 < (text.size : Int) := by omega
          have T1 : ((k : Int) + 1).toNat = k + 1 := by omega
          have I0 : (0 : Int) ≤ (k : Int) + 1 := by omega
          clear h39 h1 hc2
          go_wp2_with (at_builtin; refine wpList_appL bt rfl (.tmp 36) (.tmp 40) rfl (w.heap.size + 1) _ acc.length acc rfl HO1.out _ 1 1 [39] rfl rfl rfl rfl (by omega) hsz ?_; intro v3 w3 hown3 hb3 _; have HO3 := hide hown3; have HB3 := hide hb3; clear hown3 hb3)
          go_roundg (text.size - (k + 2))
          case measure => omega
          case rel =>
            have hz3 := HB3.out.size
            refine ⟨(k + 2), acc ++ [39], by go_num, rfl, by omega, by rw [HL.out]; omega, by simp; omega, ?_, ?_, HB.out.trans (HB3.out.mono (by omega)), HK.out.below HB3.out (by omega), by omega⟩
            · exact HN.out
            · rw [List.length_append]
              exact HO3.out
      · have q39 : ((c.toNat : Int) == 39) = false := by simp; omega
        have HN : Hid (Lex.quote (text.data.toList.drop (at_ + 1)) = (Lex.quote (text.data.toList.drop (k + 1))).map (fun p => ((acc ++ [c]) ++ p.1, p.2))) := by
          show _ = _
          rw [HQ.out, HC.out, quote_other h39, Option.map_map]
          congr 1
          funext p
          simp
        clear h39
        go_wp2_with (at_builtin; refine wpList_appL bt rfl (.tmp 36) (.tmp 40) rfl (w.heap.size + 1) _ acc.length acc rfl HO1.out _ 1 1 [c] rfl rfl rfl rfl (by omega) hsz ?_; intro v3 w3 hown3 hb3 _; have HO3 := hide hown3; have HB3 := hide hb3; clear hown3 hb3)
        go_roundg (text.size - (k + 1))
        case measure => omega
        case rel =>
          have hz3 := HB3.out.size
          refine ⟨(k + 1), acc ++ [c], by go_num, rfl, by omega, by rw [HL.out]; omega, by simp; omega, ?_, ?_, HB.out.trans (HB3.out.mono (by omega)), HK.out.below HB3.out (by omega), by omega⟩
          · exact HN.out
          · rw [List.length_append]
            exact HO3.out
    · have HF : Hid (o = none) := by
        refine HO.out.trans (quoteT_none ?_)
        rw [HQ.out, List.drop_of_length_le (by rw [HL.out]; omega)]
        rfl
      have hkI : ¬ (k : Int) < (text.size : Int) := by omega
      go_wp2_with fail
      exact bodyPost_ret (v := .tuple #[.agg #[.int .u8 0, .string ⟨#[]⟩, .int .i64 0], .int .i64 0, .bool false]) (by simp [results, Tryd.results22, go_sem, d0, d1, d2]) rfl (TP.no HF.out (((HB.out.setCell (Nat.le_refl _) _).setCell (Nat.le_refl _) _).setCell (Nat.le_refl _) _))
end Go.Proofs.YtfoolkjamadfdaaDoor
