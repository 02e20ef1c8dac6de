/-
  The walk of chanceryref19.one. Conditions: the text has at most 2^40 bytes. (printed by refone.py)
-/
import Derived.Test.YtfoolkjamadfdaaRefLexB
import Derived.Deep.CutBlock
namespace Go.Proofs.Ytfoolkjamadfdaa
open Go.RowKit

/-- A token with its place, the place behind it, and that it is one; or that it is none. -/
def TQ (w : World) (at_ : Nat) (o : Option (UInt8 × List UInt8 × Nat)) (e : Ending) (w' : World) : Prop :=
  match o with
  | some (k, s, n) => e = .returned (.tuple #[.agg #[.int .u8 (k.toNat : Int), .string ⟨s.toArray⟩, .int .i64 (at_ : Int)], .int .i64 ((at_ + n : Nat) : Int), .bool true]) ∧ Below w.heap.size w w'
  | none => ∃ k s a n, e = .returned (.tuple #[.agg #[.int .u8 k, .string s, .int .i64 a], .int .i64 n, .bool false]) ∧ Below w.heap.size w w'
theorem TQ.no {w w' : World} {at_ : Nat} {o : Option (UInt8 × List UInt8 × Nat)} {k a n : Int} {s : ByteArray} (h : o = none) (hb : Below w.heap.size w w') : TQ w at_ o (.returned (.tuple #[.agg #[.int .u8 k, .string s, .int .i64 a], .int .i64 n, .bool false])) w' := by
  subst h
  exact ⟨k, s, a, n, rfl, hb⟩
theorem TQ.yes {w w' : World} {at_ n : Nat} {o : Option (UInt8 × List UInt8 × Nat)} {k : UInt8} {l : List UInt8} {s : ByteArray} {ki e : Int} (h : o = some (k, l, n)) (hk : ki = (k.toNat : Int)) (hs : s = ⟨l.toArray⟩) (he : e = ((at_ + n : Nat) : Int)) (hb : Below w.heap.size w w') : TQ w at_ o (.returned (.tuple #[.agg #[.int .u8 ki, .string s, .int .i64 (at_ : Int)], .int .i64 e, .bool true])) w' := by
  subst h hk hs he
  exact ⟨rfl, hb⟩
/-- The two blocks of the call. -/
def On (w w1 : World) (at_ : Nat) : Prop := Below w.heap.size w w1 ∧ Blk w1 w.heap.size 31 tokZ ∧ Blk w1 (w.heap.size + 1) 31 #[.int .u8 0, .string ⟨#[]⟩, .int .i64 (at_ : Int)]
theorem On.new (w : World) (at_ : Nat) : On w ((w.alloc (.cells tokZ 31)).alloc (.cells #[.int .u8 0, .string ⟨#[]⟩, .int .i64 (at_ : Int)] 31)) at_ := by
  refine ⟨((Below.refl _ _).alloc (Nat.le_refl _) _).alloc (by simp) _, (Blk.new _ _ _).alloc _, ?_⟩
  have := Blk.new (w.alloc (.cells tokZ 31)) 31 #[.int .u8 0, .string ⟨#[]⟩, .int .i64 (at_ : Int)]
  rw [World.size_alloc] at this
  exact this
theorem On.below {w w1 w2 : World} {at_ : Nat} (h : On w w1 at_) (hb : Below w1.heap.size w1 w2) : On w w2 at_ := by
  have l1 := h.2.1.lt
  have l2 := h.2.2.lt
  exact ⟨h.1.trans (hb.mono (by omega)), h.2.1.below hb l1, h.2.2.below hb l2⟩
theorem On.cells {w w1 : World} {at_ : Nat} (h : On w w1 at_) : (w1.cell? ⟨w.heap.size, 0, none⟩ = some (.int .u8 0) ∧ w1.cell? ⟨w.heap.size, 1, none⟩ = some (.string ⟨#[]⟩) ∧ w1.cell? ⟨w.heap.size, 2, none⟩ = some (.int .i64 0)) ∧ (w1.cell? ⟨w.heap.size + 1, 0, none⟩ = some (.int .u8 0) ∧ w1.cell? ⟨w.heap.size + 1, 1, none⟩ = some (.string ⟨#[]⟩) ∧ w1.cell? ⟨w.heap.size + 1, 2, none⟩ = some (.int .i64 (at_ : Int))) ∧ (∀ i, w1.frozen? ⟨w.heap.size, i, none⟩ = false) ∧ ∀ i, w1.frozen? ⟨w.heap.size + 1, i, none⟩ = false :=
  ⟨⟨h.2.1.cell 0, h.2.1.cell 1, h.2.1.cell 2⟩, ⟨h.2.2.cell 0, h.2.2.cell 1, h.2.2.cell 2⟩, h.2.1.frozen, h.2.2.frozen⟩
theorem On.five {w w1 : World} {at_ : Nat} (h : On w w1 at_) (u0 u1 v0 v1 v2 : Value) : Below w.heap.size w (((((w1.setCell ⟨w.heap.size + 1, 0, none⟩ u0).setCell ⟨w.heap.size + 1, 1, none⟩ u1).setCell ⟨w.heap.size, 0, none⟩ v0).setCell ⟨w.heap.size, 1, none⟩ v1).setCell ⟨w.heap.size, 2, none⟩ v2) :=
  ((((h.1.setCell (Nat.le_succ _) _).setCell (Nat.le_succ _) _).setCell (Nat.le_refl _) _).setCell (Nat.le_refl _) _).setCell (Nat.le_refl _) _
theorem On.three {w w1 : World} {at_ : Nat} (h : On w w1 at_) (v0 v1 v2 : Value) : Below w.heap.size w (((w1.setCell ⟨w.heap.size, 0, none⟩ v0).setCell ⟨w.heap.size, 1, none⟩ v1).setCell ⟨w.heap.size, 2, none⟩ v2) :=
  ((h.1.setCell (Nat.le_refl _) _).setCell (Nat.le_refl _) _).setCell (Nat.le_refl _) _
theorem digit_at (l : List UInt8) (i : Nat) : Lex.digit (atB l i) = decide (0 < Lex.span Lex.digit (l.drop i)) := by
  unfold atB
  cases h : l[i]? with
  | none =>
    rw [List.drop_of_length_le (List.getElem?_eq_none_iff.1 h)]
    rfl
  | some d =>
    rw [drop_at h]
    exact span_hd _ _ _
theorem rletter_at (c : UInt8) (x : Int) (w : World) (hx : x = (c.toNat : Int)) : Calls Try.prog 20 #[.int .u8 x] w fun e w' => e = .returned (.bool (Lex.letter c)) ∧ w = w' := by
  subst hx
  exact rletter_any c w
theorem rdigit_at (c : UInt8) (x : Int) (w : World) (hx : x = (c.toNat : Int)) : Calls Try.prog 21 #[.int .u8 x] w fun e w' => e = .returned (.bool (Lex.digit c)) ∧ w = w' := by
  subst hx
  exact rdigit_any c w
theorem span_more {p : UInt8 → Bool} {l : List UInt8} {at_ k : Nat} {d : UInt8} (h : ∀ j c, j < k - at_ → (l.drop at_)[j]? = some c → p c = true) (hak : at_ ≤ k) (hd : l[k]? = some d) (hp : p d = true) : ∀ j c, j < k + 1 - at_ → (l.drop at_)[j]? = some c → p c = true := by
  intro j c hj hc
  rcases Nat.lt_or_ge j (k - at_) with h1 | h1
  · exact h j c h1 hc
  · obtain rfl : j = k - at_ := by omega
    rw [List.getElem?_drop, show at_ + (k - at_) = k by omega, hd] at hc
    injection hc with hc
    rw [← hc]
    exact hp
theorem span_end {p : UInt8 → Bool} {l : List UInt8} {at_ k : Nat} (h : ∀ j c, j < k - at_ → (l.drop at_)[j]? = some c → p c = true) (hak : at_ ≤ k) (hk : k ≤ l.length) (hd : ∀ d, l[k]? = some d → p d = false) : at_ + Lex.span p (l.drop at_) = k := by
  rw [Lex.span_eq p _ (k - at_) h (by rw [List.length_drop]; omega)]
  · omega
  · intro c hc
    rw [List.getElem?_drop, show at_ + (k - at_) = k by omega] at hc
    exact hd c hc


set_option maxRecDepth 100000 in
set_option maxHeartbeats 6400000 in
theorem one_word (text : ByteArray) (at_ : Nat) (w : World) (hm : text.size ≤ 1099511627776) (hat : at_ < text.size) (c : UInt8) (hc : text.data.toList[at_]? = some c) (hlet : Lex.letter c = true) (hno : ¬ (c.toNat = 120 ∧ Lex.isAt text.data.toList (at_ + 1) 39 = true)) :
    Calls Try.prog 18 #[.string text, .int .i64 (at_ : Int)] w (TQ w at_ (Lex.token (text.data.toList.drop at_))) := by
  have HL := hide (str_len text)
  obtain ⟨o, ho⟩ : ∃ o, o = Lex.token (text.data.toList.drop at_) := ⟨_, rfl⟩
  rw [← ho]
  have HW : Hid (o = Lex.wordT (text.data.toList.drop at_)) := by
    show _ = _
    rw [ho, token_drop hc, if_neg hno, if_pos hlet]
  have hs : text[at_] = c := by
    obtain ⟨d, h1, h2⟩ := str_at hat
    rw [hc] at h1
    injection h1 with h1
    rw [h1]
    exact h2
  have hcl := c.toNat_lt
  have HLt := hide hlet
  clear ho hlet hc
  by_cases h120 : c.toNat = 120
  · have q120 : ((c.toNat : Int) == 120) = true := by simp; omega
    have HF39 : Hid (Lex.isAt text.data.toList (at_ + 1) 39 = false) := by
      show _ = _
      cases h : Lex.isAt text.data.toList (at_ + 1) 39 with
      | false => rfl
      | true => exact absurd ⟨h120, h⟩ hno
    clear h120 hno
    go_enter Try.func18, Try.ntmps18
    go_wp2_with fail
    with_reducible refine (rat_any text _ (at_ + 1) _ (by omega)).mono ?_
    rintro e w' ⟨rfl, rfl⟩
    obtain ⟨a, ha⟩ : ∃ a, a = atB text.data.toList (at_ + 1) := ⟨_, rfl⟩
    have qa := at_is text.data.toList (at_ + 1) 39 (by decide) 39 rfl
    rw [← ha, HF39.out] at qa
    rw [← ha]
    clear ha
    go_wp2_with fail
    with_reducible refine (rletter_any c _).mono ?_
    rintro e w1 ⟨rfl, hw1⟩
    rw [HLt.out]
    have HOn : Hid (On w w1 at_) := by rw [← hw1]; exact On.new w at_
    clear hw1
    have HF : Hid (o = Lex.wordT (text.data.toList.drop at_)) := HW.out
    have hspl := Lex.span_le Lex.inWord (text.data.toList.drop at_)
    rw [List.length_drop, HL.out] at hspl
    obtain ⟨n, hn⟩ : ∃ n, n = Lex.span Lex.inWord (text.data.toList.drop at_) := ⟨_, rfl⟩
    unfold Lex.wordT at HF
    rw [← hn] at HF hspl
    obtain ⟨e1, he1⟩ : ∃ x, x = at_ + n := ⟨_, rfl⟩
    have HTot : Hid (at_ + Lex.span Lex.inWord (text.data.toList.drop at_) = e1) := by show _ = _; rw [← hn, he1]
    have HE1 : Hid (e1 = at_ + n ∧ e1 - at_ = n) := ⟨he1, by omega⟩
    have he1b : e1 ≤ text.size := by omega
    have hI1 : (at_ : Int) ≤ (e1 : Int) := by omega
    have hI2 : (e1 : Int) ≤ (text.size : Int) := by omega
    clear hn he1
    go_upto_block 1 with fail
    go_cut [10] (fun s10 wx => wx = w1 ∧ s10 = .int .i64 (e1 : Int))
    case first =>
      go_wp2_with fail
      go_loopg [10] (text.size - at_) (fun g a wr => ∃ k : Nat, g = text.size - k ∧ wr = w1 ∧ a = .int .i64 (k : Nat) ∧ at_ ≤ k ∧ k ≤ text.size ∧ Hid (∀ j d, j < k - at_ → (text.data.toList.drop (at_))[j]? = some d → Lex.inWord d = true))
      case atStart => exact ⟨at_, rfl, rfl, by go_num, Nat.le_refl _, by omega, fun j d h => absurd h (by omega)⟩
      case round =>
        obtain ⟨k, rfl, rfl, rfl, hak, hk, HK⟩ := hrel
        by_cases hlt : k < text.size
        · obtain ⟨d, hd, hsd⟩ := str_at hlt
          have HDk := hide hd
          have hdl := d.toNat_lt
          have hkI : (k : Int) < (text.size : Int) := by omega
          clear hd
          go_wp2_with fail
          with_reducible refine (rletter_any d _).mono ?_
          rintro e w' ⟨rfl, rfl⟩
          cases hld : Lex.letter d with
          | true =>
            have Hld := hide hld
            clear hld
            have HN := hide (span_more HK.out hak HDk.out (by unfold Lex.inWord; rw [Hld.out]; rfl))
            go_wp2_with fail
            go_roundg (text.size - (k + 1))
            case measure => omega
            case rel => exact ⟨k + 1, rfl, rfl, by go_num, by omega, by omega, HN.out⟩
          | false =>
            have Hld := hide hld
            clear hld
            go_wp2_with fail
            with_reducible refine (rdigit_any d _).mono ?_
            rintro e w' ⟨rfl, rfl⟩
            cases hdd : Lex.digit d with
            | true =>
              have Hdd := hide hdd
              clear hdd
              have HN := hide (span_more HK.out hak HDk.out (by unfold Lex.inWord; rw [Hdd.out, Bool.or_true]))
              go_wp2_with fail
              go_roundg (text.size - (k + 1))
              case measure => omega
              case rel => exact ⟨k + 1, rfl, rfl, by go_num, by omega, by omega, HN.out⟩
            | false =>
              have Hdd := hide hdd
              clear hdd
              have HE := hide (HTot.out.symm.trans (span_end HK.out hak (by rw [HL.out]; exact hk) (by intro d2 h2; rw [HDk.out] at h2; injection h2 with h2; rw [← h2]; unfold Lex.inWord; rw [Hld.out, Hdd.out]; rfl)))
              go_wp2_with fail
              go_meet
              exact ⟨rfl, by rw [HE.out]⟩
        · have hkI : ¬ (k : Int) < (text.size : Int) := by omega
          have HE := hide (HTot.out.symm.trans (span_end HK.out hak (by rw [HL.out]; exact hk) (by intro d2 h2; rw [List.getElem?_eq_none (by rw [HL.out]; omega)] at h2; cases h2)))
          go_wp2_with fail
          go_meet
          exact ⟨rfl, by rw [HE.out]⟩
    case rest =>
      obtain ⟨rfl, rfl⟩ := hcut
      obtain ⟨⟨a0, a1, a2⟩, ⟨b0, b1', b2'⟩, fa, fb⟩ := HOn.out.cells
      have fa0 := fa 0
      have fa1 := fa 1
      have fa2 := fa 2
      have fb0 := fb 0
      have fb1 := fb 1
      have fb2 := fb 2
      have la := HOn.out.2.1.lt
      have lb := HOn.out.2.2.lt
      clear fa fb
      by_cases h24 : n ≤ 24
      · have HG := hide (HF.out.trans (if_pos h24))
        have t5 : decide ((e1 : Int) - (at_ : Int) ≤ 24) = true := by have := HE1.out; simp; omega
        clear h24
        go_wp2_with fail
        refine bodyPost_ret (v := .tuple #[.agg #[.int .u8 1, .string (text.extract at_ e1), .int .i64 (at_ : Int)], .int .i64 (e1 : Int), .bool true]) (by simp [results, Try.results18, go_sem, a0, a1, a2]) rfl ?_
        exact TQ.yes HG.out rfl (by rw [extract_eq _ _ _ he1b, HE1.out.2]) (by rw [HE1.out.1]) (HOn.out.five _ _ _ _ _)
      · have HG := hide (HF.out.trans (if_neg h24))
        have t5 : decide ((e1 : Int) - (at_ : Int) ≤ 24) = false := by have := HE1.out; simp; omega
        clear h24
        go_wp2_with fail
        refine bodyPost_ret (v := .tuple #[.agg #[.int .u8 1, .string (text.extract at_ e1), .int .i64 (at_ : Int)], .int .i64 (e1 : Int), .bool false]) (by simp [results, Try.results18, go_sem, a0, a1, a2]) rfl ?_
        exact TQ.no HG.out (HOn.out.five _ _ _ _ _)
  · have q120 : ((c.toNat : Int) == 120) = false := by simp; omega
    clear h120 hno
    go_enter Try.func18, Try.ntmps18
    go_wp2_with fail
    with_reducible refine (rletter_any c _).mono ?_
    rintro e w1 ⟨rfl, hw1⟩
    rw [HLt.out]
    have HOn : Hid (On w w1 at_) := by rw [← hw1]; exact On.new w at_
    clear hw1
    have HF : Hid (o = Lex.wordT (text.data.toList.drop at_)) := HW.out
    have hspl := Lex.span_le Lex.inWord (text.data.toList.drop at_)
    rw [List.length_drop, HL.out] at hspl
    obtain ⟨n, hn⟩ : ∃ n, n = Lex.span Lex.inWord (text.data.toList.drop at_) := ⟨_, rfl⟩
    unfold Lex.wordT at HF
    rw [← hn] at HF hspl
    obtain ⟨e1, he1⟩ : ∃ x, x = at_ + n := ⟨_, rfl⟩
    have HTot : Hid (at_ + Lex.span Lex.inWord (text.data.toList.drop at_) = e1) := by show _ = _; rw [← hn, he1]
    have HE1 : Hid (e1 = at_ + n ∧ e1 - at_ = n) := ⟨he1, by omega⟩
    have he1b : e1 ≤ text.size := by omega
    have hI1 : (at_ : Int) ≤ (e1 : Int) := by omega
    have hI2 : (e1 : Int) ≤ (text.size : Int) := by omega
    clear hn he1
    go_upto_block 1 with fail
    go_cut [10] (fun s10 wx => wx = w1 ∧ s10 = .int .i64 (e1 : Int))
    case first =>
      go_wp2_with fail
      go_loopg [10] (text.size - at_) (fun g a wr => ∃ k : Nat, g = text.size - k ∧ wr = w1 ∧ a = .int .i64 (k : Nat) ∧ at_ ≤ k ∧ k ≤ text.size ∧ Hid (∀ j d, j < k - at_ → (text.data.toList.drop (at_))[j]? = some d → Lex.inWord d = true))
      case atStart => exact ⟨at_, rfl, rfl, by go_num, Nat.le_refl _, by omega, fun j d h => absurd h (by omega)⟩
      case round =>
        obtain ⟨k, rfl, rfl, rfl, hak, hk, HK⟩ := hrel
        by_cases hlt : k < text.size
        · obtain ⟨d, hd, hsd⟩ := str_at hlt
          have HDk := hide hd
          have hdl := d.toNat_lt
          have hkI : (k : Int) < (text.size : Int) := by omega
          clear hd
          go_wp2_with fail
          with_reducible refine (rletter_any d _).mono ?_
          rintro e w' ⟨rfl, rfl⟩
          cases hld : Lex.letter d with
          | true =>
            have Hld := hide hld
            clear hld
            have HN := hide (span_more HK.out hak HDk.out (by unfold Lex.inWord; rw [Hld.out]; rfl))
            go_wp2_with fail
            go_roundg (text.size - (k + 1))
            case measure => omega
            case rel => exact ⟨k + 1, rfl, rfl, by go_num, by omega, by omega, HN.out⟩
          | false =>
            have Hld := hide hld
            clear hld
            go_wp2_with fail
            with_reducible refine (rdigit_any d _).mono ?_
            rintro e w' ⟨rfl, rfl⟩
            cases hdd : Lex.digit d with
            | true =>
              have Hdd := hide hdd
              clear hdd
              have HN := hide (span_more HK.out hak HDk.out (by unfold Lex.inWord; rw [Hdd.out, Bool.or_true]))
              go_wp2_with fail
              go_roundg (text.size - (k + 1))
              case measure => omega
              case rel => exact ⟨k + 1, rfl, rfl, by go_num, by omega, by omega, HN.out⟩
            | false =>
              have Hdd := hide hdd
              clear hdd
              have HE := hide (HTot.out.symm.trans (span_end HK.out hak (by rw [HL.out]; exact hk) (by intro d2 h2; rw [HDk.out] at h2; injection h2 with h2; rw [← h2]; unfold Lex.inWord; rw [Hld.out, Hdd.out]; rfl)))
              go_wp2_with fail
              go_meet
              exact ⟨rfl, by rw [HE.out]⟩
        · have hkI : ¬ (k : Int) < (text.size : Int) := by omega
          have HE := hide (HTot.out.symm.trans (span_end HK.out hak (by rw [HL.out]; exact hk) (by intro d2 h2; rw [List.getElem?_eq_none (by rw [HL.out]; omega)] at h2; cases h2)))
          go_wp2_with fail
          go_meet
          exact ⟨rfl, by rw [HE.out]⟩
    case rest =>
      obtain ⟨rfl, rfl⟩ := hcut
      obtain ⟨⟨a0, a1, a2⟩, ⟨b0, b1', b2'⟩, fa, fb⟩ := HOn.out.cells
      have fa0 := fa 0
      have fa1 := fa 1
      have fa2 := fa 2
      have fb0 := fb 0
      have fb1 := fb 1
      have fb2 := fb 2
      have la := HOn.out.2.1.lt
      have lb := HOn.out.2.2.lt
      clear fa fb
      by_cases h24 : n ≤ 24
      · have HG := hide (HF.out.trans (if_pos h24))
        have t5 : decide ((e1 : Int) - (at_ : Int) ≤ 24) = true := by have := HE1.out; simp; omega
        clear h24
        go_wp2_with fail
        refine bodyPost_ret (v := .tuple #[.agg #[.int .u8 1, .string (text.extract at_ e1), .int .i64 (at_ : Int)], .int .i64 (e1 : Int), .bool true]) (by simp [results, Try.results18, go_sem, a0, a1, a2]) rfl ?_
        exact TQ.yes HG.out rfl (by rw [extract_eq _ _ _ he1b, HE1.out.2]) (by rw [HE1.out.1]) (HOn.out.five _ _ _ _ _)
      · have HG := hide (HF.out.trans (if_neg h24))
        have t5 : decide ((e1 : Int) - (at_ : Int) ≤ 24) = false := by have := HE1.out; simp; omega
        clear h24
        go_wp2_with fail
        refine bodyPost_ret (v := .tuple #[.agg #[.int .u8 1, .string (text.extract at_ e1), .int .i64 (at_ : Int)], .int .i64 (e1 : Int), .bool false]) (by simp [results, Try.results18, go_sem, a0, a1, a2]) rfl ?_
        exact TQ.no HG.out (HOn.out.five _ _ _ _ _)
end Go.Proofs.Ytfoolkjamadfdaa
