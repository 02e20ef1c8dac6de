/-
  The walk of the lexer's token. Conditions: the text has at most 2^40 bytes.
-/
import Derived.Test.YtfoolkjamadfdaaDoorLexP
namespace Go.Proofs.YtfoolkjamadfdaaDoor
open Go.RowKit

theorem TP.parts {w w' : World} {at_ : Nat} {o : Option (UInt8 × List UInt8 × Nat)} {e : Ending} (h : TP w at_ o e w') : ∃ k s a n b, e = .returned (.tuple #[.agg #[.int .u8 k, .string s, .int .i64 a], .int .i64 n, .bool b]) ∧ Below w.heap.size w w' ∧ ∀ w0 w'' : World, Below w0.heap.size w0 w'' → TP w0 at_ o (.returned (.tuple #[.agg #[.int .u8 k, .string s, .int .i64 a], .int .i64 n, .bool b])) w'' := by
  match o, h with
  | none, h =>
    obtain ⟨k, s, a, n, rfl, hb⟩ := h
    exact ⟨k, s, a, n, false, rfl, hb, fun _ _ hb' => ⟨k, s, a, n, rfl, hb'⟩⟩
  | some (k, s, n), h =>
    obtain ⟨rfl, hb⟩ := h
    exact ⟨_, _, _, _, _, rfl, hb, fun _ _ hb' => ⟨rfl, hb'⟩⟩
theorem token_drop {l : List UInt8} {i : Nat} {c : UInt8} (hc : l[i]? = some c) : Lex.token (l.drop i) = if c.toNat = 120 ∧ Lex.isAt l (i + 1) 39 = true then Lex.pairsT (l.drop i) else if Lex.letter c = true then Lex.wordT (l.drop i) else if Lex.digit c = true then Lex.numberT (l.drop i) else if c.toNat = 39 then Lex.quoteT (l.drop i) else Lex.signT (l.drop i) := by
  have e : Lex.isAt l (i + 1) 39 = Lex.isAt (l.drop (i + 1)) 0 39 := by rw [Lex.isAt_drop]
  rw [e, drop_at hc]
  rfl

theorem letter_at (c : UInt8) (x : Int) (w : World) (hx : x = (c.toNat : Int)) : Calls Tryd.prog 18 #[.int .i32 x] w fun e w' => e = .returned (.bool (Lex.letter c)) ∧ w = w' := by
  subst hx
  exact letter_any c w

set_option maxRecDepth 8000 in
set_option maxHeartbeats 3200000 in
theorem token_any (text : ByteArray) (at_ : Nat) (w : World) (hm : text.size ≤ 1099511627776) (hat : at_ < text.size) :
    Calls Tryd.prog 9 #[.string text, .int .i64 (at_ : Int)] w (TP w at_ (Lex.token (text.data.toList.drop at_))) := by
  have HL := hide (str_len text)
  obtain ⟨c, hc, hs⟩ := str_at hat
  have hcl := c.toNat_lt
  obtain ⟨o, ho⟩ : ∃ o, o = Lex.token (text.data.toList.drop at_) := ⟨_, rfl⟩
  rw [← ho]
  obtain ⟨v39, h39⟩ : ∃ b, b = Lex.isAt text.data.toList (at_ + 1) 39 := ⟨_, rfl⟩
  have HO := hide (ho.trans (token_drop hc))
  rw [← h39] at HO
  have H39 := hide h39
  have hlast : v39 = true → at_ + 1 < text.size := by
    intro h
    rw [h39] at h
    unfold Lex.isAt at h
    rw [decide_eq_true_eq] at h
    have := (List.getElem?_eq_some_iff.1 h).1
    rw [HL.out] at this
    exact this
  have HLa := hide hlast
  clear ho hc h39 hlast
  go_enter Tryd.func9, Tryd.ntmps9
  by_cases h120 : c.toNat = 120
  · have q120 : ((c.toNat : Int) == 120) = true := by simp; omega
    go_wp2_with fail
    with_reducible refine (is_any text _ (at_ + 1) 39 _ _ (by omega) b39).mono ?_
    rintro e w' ⟨rfl, rfl⟩
    rw [← H39.out]
    cases v39 with
    | true =>
      have HF : Hid (o = Lex.pairsT (text.data.toList.drop at_)) := HO.out.trans (if_pos ⟨h120, rfl⟩)
      have hat1 := HLa.out rfl
      clear h120
      go_wp2_with fail
      with_reducible refine (lpairs_any text at_ _ hm hat1).mono ?_
      intro e w2 hpost
      obtain ⟨k2, s2, a2, n2, b2, rfl, hb2, hre⟩ := hpost.parts
      have HRe := hide hre
      have hblk := Blk.below (Blk.new w 32 tokZ) hb2 (by simp)
      have hbel := ((Below.refl w.heap.size w).alloc (Nat.le_refl _) (.cells tokZ 32)).trans (hb2.mono (by simp))
      have HB := hide hbel
      have d0 : w2.cell? ⟨w.heap.size, 0, none⟩ = some (.int .u8 0) := hblk.cell 0
      have d1 : w2.cell? ⟨w.heap.size, 1, none⟩ = some (.string ⟨#[]⟩) := hblk.cell 1
      have d2 : w2.cell? ⟨w.heap.size, 2, none⟩ = some (.int .i64 0) := hblk.cell 2
      have f0 := hblk.frozen 0
      have f1 := hblk.frozen 1
      have f2 := hblk.frozen 2
      have hlt0 := hblk.lt
      clear hpost hre hb2 hblk hbel
      go_wp2_with fail
      refine bodyPost_ret (v := .tuple #[.agg #[.int .u8 k2, .string s2, .int .i64 a2], .int .i64 n2, .bool b2]) (by simp [results, Tryd.results9, go_sem, d0, d1, d2]) rfl ?_
      rw [HF.out]
      exact HRe.out _ _ (((HB.out.setCell (Nat.le_refl _) _).setCell (Nat.le_refl _) _).setCell (Nat.le_refl _) _)
    | false =>
      have hx : ¬ (c.toNat = 120 ∧ false = true) := by simp
      have hlet : Lex.letter c = true := by unfold Lex.letter; simp [h120]
      have H120 : Hid ((120 : Int) = (c.toNat : Int)) := by show _ = _; omega
      clear h120
      have HLt := hide hlet
      have HF : Hid (o = Lex.wordT (text.data.toList.drop at_)) := HO.out.trans (by rw [if_neg hx, if_pos hlet])
      have hspl := Lex.span_le Lex.inWord (text.data.toList.drop at_)
      rw [List.length_drop, HL.out] at hspl
      obtain ⟨n, hn⟩ : ∃ n, n = Lex.span Lex.inWord (text.data.toList.drop at_) := ⟨_, rfl⟩
      rw [← hn] at hspl
      have HN := hide hn
      unfold Lex.wordT at HF
      rw [← hn] at HF
      clear hlet hn hx HO
      go_wp2_with fail
      with_reducible refine (letter_at c 120 _ H120.out).mono ?_
      rintro e w' ⟨rfl, rfl⟩
      rw [HLt.out]
      go_wp2_with fail
      with_reducible refine (span_any text at_ 19 Lex.inWord _ (by omega) run_inWord inWord_any (by omega)).mono ?_
      rintro e w' ⟨rfl, rfl⟩
      rw [← HN.out]
      obtain ⟨e1, he1⟩ : ∃ x, x = at_ + n := ⟨_, rfl⟩
      rw [← he1]
      have HE1 : Hid (e1 = at_ + n ∧ e1 - at_ = n) := ⟨he1, by omega⟩
      have he1b : e1 ≤ text.size := by omega
      have hI1 : (at_ : Int) ≤ (e1 : Int) := by omega
      have hI2 : (e1 : Int) ≤ (text.size : Int) := by omega
      by_cases h24 : n ≤ 24
      · have HG := hide (HF.out.trans (if_pos h24))
        have t5 : decide ((e1 : Int) - (at_ : Int) ≤ 24) = true := by simp; omega
        clear h24 he1
        go_wp2_with fail
        exact bodyPost_ret (v := .tuple #[.agg #[.int .u8 1, .string (text.extract at_ e1), .int .i64 0], .int .i64 (e1 : Int), .bool true]) (by simp [results, Tryd.results9, go_sem]) rfl (TP.yes HG.out rfl (by rw [extract_eq _ _ _ he1b, HE1.out.2]) (by rw [HE1.out.1]) ((Below.refl _ _).alloc (Nat.le_refl _) _))
      · have HG := hide (HF.out.trans (if_neg h24))
        have t5 : decide ((e1 : Int) - (at_ : Int) ≤ 24) = false := by simp; omega
        clear h24 he1
        go_wp2_with fail
        exact bodyPost_ret (v := .tuple #[.agg #[.int .u8 1, .string (text.extract at_ e1), .int .i64 0], .int .i64 (e1 : Int), .bool false]) (by simp [results, Tryd.results9, go_sem]) rfl (TP.no HG.out ((Below.refl _ _).alloc (Nat.le_refl _) _))
  · have q120 : ((c.toNat : Int) == 120) = false := by simp; omega
    have hx : ¬ (c.toNat = 120 ∧ v39 = true) := fun h => h120 h.1
    clear h120
    cases hlet : Lex.letter c with
    | true =>
      have HLt := hide hlet
      have HF : Hid (o = Lex.wordT (text.data.toList.drop at_)) := HO.out.trans (by rw [if_neg hx, if_pos hlet])
      have hspl := Lex.span_le Lex.inWord (text.data.toList.drop at_)
      rw [List.length_drop, HL.out] at hspl
      obtain ⟨n, hn⟩ : ∃ n, n = Lex.span Lex.inWord (text.data.toList.drop at_) := ⟨_, rfl⟩
      rw [← hn] at hspl
      have HN := hide hn
      unfold Lex.wordT at HF
      rw [← hn] at HF
      clear hlet hn hx HO
      go_wp2_with fail
      with_reducible refine (letter_any c _).mono ?_
      rintro e w' ⟨rfl, rfl⟩
      rw [HLt.out]
      go_wp2_with fail
      with_reducible refine (span_any text at_ 19 Lex.inWord _ (by omega) run_inWord inWord_any (by omega)).mono ?_
      rintro e w' ⟨rfl, rfl⟩
      rw [← HN.out]
      obtain ⟨e1, he1⟩ : ∃ x, x = at_ + n := ⟨_, rfl⟩
      rw [← he1]
      have HE1 : Hid (e1 = at_ + n ∧ e1 - at_ = n) := ⟨he1, by omega⟩
      have he1b : e1 ≤ text.size := by omega
      have hI1 : (at_ : Int) ≤ (e1 : Int) := by omega
      have hI2 : (e1 : Int) ≤ (text.size : Int) := by omega
      by_cases h24 : n ≤ 24
      · have HG := hide (HF.out.trans (if_pos h24))
        have t5 : decide ((e1 : Int) - (at_ : Int) ≤ 24) = true := by simp; omega
        clear h24 he1
        go_wp2_with fail
        exact bodyPost_ret (v := .tuple #[.agg #[.int .u8 1, .string (text.extract at_ e1), .int .i64 0], .int .i64 (e1 : Int), .bool true]) (by simp [results, Tryd.results9, go_sem]) rfl (TP.yes HG.out rfl (by rw [extract_eq _ _ _ he1b, HE1.out.2]) (by rw [HE1.out.1]) ((Below.refl _ _).alloc (Nat.le_refl _) _))
      · have HG := hide (HF.out.trans (if_neg h24))
        have t5 : decide ((e1 : Int) - (at_ : Int) ≤ 24) = false := by simp; omega
        clear h24 he1
        go_wp2_with fail
        exact bodyPost_ret (v := .tuple #[.agg #[.int .u8 1, .string (text.extract at_ e1), .int .i64 0], .int .i64 (e1 : Int), .bool false]) (by simp [results, Tryd.results9, go_sem]) rfl (TP.no HG.out ((Below.refl _ _).alloc (Nat.le_refl _) _))
    | false =>
      have HLt := hide hlet
      have HO2 : Hid (o = _) := HO.out.trans (by rw [if_neg hx, if_neg (by rw [hlet]; simp)])
      clear hlet hx HO
      go_wp2_with fail
      with_reducible refine (letter_any c _).mono ?_
      rintro e w' ⟨rfl, rfl⟩
      rw [HLt.out]
      go_wp2_with fail
      with_reducible refine (digit_any c _).mono ?_
      rintro e w' ⟨rfl, rfl⟩
      cases hdig : Lex.digit c with
      | true =>
        have HF : Hid (o = Lex.numberT (text.data.toList.drop at_)) := HO2.out.trans (if_pos hdig)
        clear hdig
        go_wp2_with fail
        with_reducible refine (number_any text at_ _ hm hat).mono ?_
        intro e w2 hpost
        obtain ⟨k2, s2, a2, n2, b2, rfl, hb2, hre⟩ := hpost.parts
        have HRe := hide hre
        have hblk := Blk.below (Blk.new w 32 tokZ) hb2 (by simp)
        have hbel := ((Below.refl w.heap.size w).alloc (Nat.le_refl _) (.cells tokZ 32)).trans (hb2.mono (by simp))
        have HB := hide hbel
        have d0 : w2.cell? ⟨w.heap.size, 0, none⟩ = some (.int .u8 0) := hblk.cell 0
        have d1 : w2.cell? ⟨w.heap.size, 1, none⟩ = some (.string ⟨#[]⟩) := hblk.cell 1
        have d2 : w2.cell? ⟨w.heap.size, 2, none⟩ = some (.int .i64 0) := hblk.cell 2
        have f0 := hblk.frozen 0
        have f1 := hblk.frozen 1
        have f2 := hblk.frozen 2
        have hlt0 := hblk.lt
        clear hpost hre hb2 hblk hbel
        go_wp2_with fail
        refine bodyPost_ret (v := .tuple #[.agg #[.int .u8 k2, .string s2, .int .i64 a2], .int .i64 n2, .bool b2]) (by simp [results, Tryd.results9, go_sem, d0, d1, d2]) rfl ?_
        rw [HF.out]
        exact HRe.out _ _ (((HB.out.setCell (Nat.le_refl _) _).setCell (Nat.le_refl _) _).setCell (Nat.le_refl _) _)
      | false =>
        have HO3 : Hid (o = _) := HO2.out.trans (if_neg (by rw [hdig]; simp))
        clear hdig HO2
        by_cases h39 : c.toNat = 39
        · have q39 : ((c.toNat : Int) == 39) = true := by simp; omega
          have HF : Hid (o = Lex.quoteT (text.data.toList.drop at_)) := HO3.out.trans (if_pos h39)
          clear h39
          go_wp2_with fail
          with_reducible refine (quoted_any text at_ _ hm hat).mono ?_
          intro e w2 hpost
          obtain ⟨k2, s2, a2, n2, b2, rfl, hb2, hre⟩ := hpost.parts
          have HRe := hide hre
          have hblk := Blk.below (Blk.new w 32 tokZ) hb2 (by simp)
          have hbel := ((Below.refl w.heap.size w).alloc (Nat.le_refl _) (.cells tokZ 32)).trans (hb2.mono (by simp))
          have HB := hide hbel
          have d0 : w2.cell? ⟨w.heap.size, 0, none⟩ = some (.int .u8 0) := hblk.cell 0
          have d1 : w2.cell? ⟨w.heap.size, 1, none⟩ = some (.string ⟨#[]⟩) := hblk.cell 1
          have d2 : w2.cell? ⟨w.heap.size, 2, none⟩ = some (.int .i64 0) := hblk.cell 2
          have f0 := hblk.frozen 0
          have f1 := hblk.frozen 1
          have f2 := hblk.frozen 2
          have hlt0 := hblk.lt
          clear hpost hre hb2 hblk hbel
          go_wp2_with fail
          refine bodyPost_ret (v := .tuple #[.agg #[.int .u8 k2, .string s2, .int .i64 a2], .int .i64 n2, .bool b2]) (by simp [results, Tryd.results9, go_sem, d0, d1, d2]) rfl ?_
          rw [HF.out]
          exact HRe.out _ _ (((HB.out.setCell (Nat.le_refl _) _).setCell (Nat.le_refl _) _).setCell (Nat.le_refl _) _)
        · have q39 : ((c.toNat : Int) == 39) = false := by simp; omega
          have HF : Hid (o = Lex.signT (text.data.toList.drop at_)) := HO3.out.trans (if_neg h39)
          clear h39
          go_wp2_with fail
          with_reducible refine (sign_any text at_ _ hm hat).mono ?_
          intro e w2 hpost
          obtain ⟨k2, s2, a2, n2, b2, rfl, hb2, hre⟩ := hpost.parts
          have HRe := hide hre
          have hblk := Blk.below (Blk.new w 32 tokZ) hb2 (by simp)
          have hbel := ((Below.refl w.heap.size w).alloc (Nat.le_refl _) (.cells tokZ 32)).trans (hb2.mono (by simp))
          have HB := hide hbel
          have d0 : w2.cell? ⟨w.heap.size, 0, none⟩ = some (.int .u8 0) := hblk.cell 0
          have d1 : w2.cell? ⟨w.heap.size, 1, none⟩ = some (.string ⟨#[]⟩) := hblk.cell 1
          have d2 : w2.cell? ⟨w.heap.size, 2, none⟩ = some (.int .i64 0) := hblk.cell 2
          have f0 := hblk.frozen 0
          have f1 := hblk.frozen 1
          have f2 := hblk.frozen 2
          have hlt0 := hblk.lt
          clear hpost hre hb2 hblk hbel
          go_wp2_with fail
          refine bodyPost_ret (v := .tuple #[.agg #[.int .u8 k2, .string s2, .int .i64 a2], .int .i64 n2, .bool b2]) (by simp [results, Tryd.results9, go_sem, d0, d1, d2]) rfl ?_
          rw [HF.out]
          exact HRe.out _ _ (((HB.out.setCell (Nat.le_refl _) _).setCell (Nat.le_refl _) _).setCell (Nat.le_refl _) _)
end Go.Proofs.YtfoolkjamadfdaaDoor
