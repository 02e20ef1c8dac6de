/-
  The walks of chanceryref19.quoted, paired. Conditions: the text has at most 2^40 bytes. (printed by refquote.py)
-/
import Derived.Test.YtfoolkjamadfdaaRefLexA
namespace Go.Proofs.Ytfoolkjamadfdaa
open Go.RowKit

/-- What is told of a text or of bytes at a place. -/
def SP (w : World) (at_ : Nat) (o : Option (UInt8 × List UInt8 × Nat)) (e : Ending) (w' : World) : Prop :=
  match o with
  | none => ∃ s n, e = .returned (.tuple #[.string s, .int .i64 n, .bool false]) ∧ Below w.heap.size w w'
  | some (_, s, n) => e = .returned (.tuple #[.string ⟨s.toArray⟩, .int .i64 ((at_ + n : Nat) : Int), .bool true]) ∧ Below w.heap.size w w'
theorem SP.no {w w' : World} {at_ : Nat} {o : Option (UInt8 × List UInt8 × Nat)} {s : ByteArray} {n : Int} (h : o = none) (hb : Below w.heap.size w w') : SP w at_ o (.returned (.tuple #[.string s, .int .i64 n, .bool false])) w' := by
  subst h
  exact ⟨_, _, rfl, hb⟩
theorem SP.yes {w w' : World} {at_ : Nat} {o : Option (UInt8 × List UInt8 × Nat)} {k : UInt8} {s : List UInt8} {n : Nat} {t : ByteArray} {m : Int} (h : o = some (k, s, n)) (ht : t = ⟨s.toArray⟩) (hm : m = ((at_ + n : Nat) : Int)) (hb : Below w.heap.size w w') : SP w at_ o (.returned (.tuple #[.string t, .int .i64 m, .bool true])) w' := by
  subst h ht hm
  exact ⟨rfl, hb⟩
/-- What holds at the head of a round. -/
def QS (w : World) (l : List UInt8) (at_ k : Nat) (acc : List UInt8) (v : Value) (wr : World) : Prop :=
  k ≤ l.length ∧ acc.length ≤ k ∧ Lex.quote (l.drop (at_ + 1)) = (Lex.quote (l.drop k)).map (fun p => (acc ++ p.1, p.2)) ∧ wr.ownsRow w.heap.size 5 1 v acc.length (acc.map B8) ∧ Below w.heap.size w wr ∧ w.heap.size ≤ wr.heap.size

set_option maxHeartbeats 1600000 in
theorem rquoted_any (text : ByteArray) (at_ : Nat) (w : World) (hm : text.size ≤ 1099511627776) (hat : at_ < text.size) :
    Calls Try.prog 36 #[.string text, .int .i64 (at_ : Int)] w (SP w at_ (Lex.quoteT (text.data.toList.drop at_))) := by
  have HL := hide (str_len text)
  obtain ⟨o, ho⟩ : ∃ o, o = Lex.quoteT (text.data.toList.drop at_) := ⟨_, rfl⟩
  have HO := hide ho
  rw [← ho]
  clear ho
  go_enter Try.func36, Try.ntmps36
  go_wp2_with fail
  go_loopg [7, 1] (text.size - (at_ + 1)) (fun g v i wr => ∃ (k : Nat) (acc : List UInt8), i = .int .i64 (k : Nat) ∧ g = text.size - k ∧ at_ < k ∧ QS w text.data.toList at_ k acc v wr)
  case atStart => exact ⟨at_ + 1, [], by go_num, rfl, by omega, by rw [HL.out]; omega, by simp, by simp, own_nil _ _ _ _, Below.refl _ _, Nat.le_refl _⟩
  case round =>
    obtain ⟨k, acc, rfl, rfl, hak, hk, hacc, hq, hown, hbel, hsz⟩ := hrel
    rw [HL.out] at hk
    have HQ := hide hq
    have HO1 := hide hown
    have HB := hide hbel
    clear hq hown hbel
    by_cases hlt : k < text.size
    · obtain ⟨c, hc, hs⟩ := str_at hlt
      have HC := hide (drop_at hc)
      have hcl := c.toNat_lt
      have hkI : (k : Int) < (text.size : Int) := by omega
      clear hc
      by_cases h39 : c.toNat = 39
      · have q39 : ((c.toNat : Int) == 39) = true := by simp; omega
        obtain ⟨b1, hb1⟩ : ∃ b, b = Lex.isAt text.data.toList (k + 1) 39 := ⟨_, rfl⟩
        have H1 := hide hb1
        clear hb1
        go_wp2_with fail
        with_reducible refine (rat_any text _ (k + 1) _ (by omega)).mono ?_
        rintro e w' ⟨rfl, rfl⟩
        obtain ⟨a, ha⟩ : ∃ a, a = atB text.data.toList (k + 1) := ⟨_, rfl⟩
        have qa := at_is text.data.toList (k + 1) 39 (by decide) 39 rfl
        rw [← ha, ← H1.out] at qa
        rw [← ha]
        clear ha
        cases b1 with
        | false =>
          have HE : Hid (Lex.quote (text.data.toList.drop (at_ + 1)) = some (acc, text.data.toList.drop (k + 1))) := by
            show _ = _
            rw [HQ.out, HC.out, quote_done h39 (by rw [Lex.isAt_drop]; exact H1.out.symm)]
            simp
          have HT := hide (HO.out.trans (quoteT_some (by rw [HL.out]; omega) HE.out))
          obtain ⟨A1, c1, rfl, -, -, -⟩ := own_form HO1.out
          have ec := (Rb.own HO1.out).run_string (P := Try.prog) 46 5 9 c1 Try.underlying46 Try.underlying5 Try.underlying9
          by_cases h200 : acc.length ≤ 200
          · have HF := hide (HT.out.trans (if_pos h200))
            have t2 : decide ((acc.length : Int) ≤ 200) = true := by simp; omega
            clear h39 h200
            go_wp2_with fail
            exact bodyPost_ret (v := .tuple #[.string ⟨acc.toArray⟩, .int .i64 ((k : Int) + 1), .bool true]) (by simp [results, Try.results36, go_sem]) rfl (SP.yes HF.out rfl (by omega) HB.out)
          · have HF := hide (HT.out.trans (if_neg h200))
            have t2 : decide ((acc.length : Int) ≤ 200) = false := by simp; omega
            clear h39 h200
            go_wp2_with fail
            exact bodyPost_ret (v := .tuple #[.string ⟨acc.toArray⟩, .int .i64 ((k : Int) + 1), .bool false]) (by simp [results, Try.results36, go_sem]) rfl (SP.no HF.out HB.out)
        | true =>
          have h1 := H1.out.symm
          unfold Lex.isAt at h1
          rw [decide_eq_true_eq] at h1
          have hk2 : k + 1 < text.size := by have := (List.getElem?_eq_some_iff.1 h1).1; rw [HL.out] at this; exact this
          have HN : Hid (Lex.quote (text.data.toList.drop (at_ + 1)) = (Lex.quote (text.data.toList.drop (k + 2))).map (fun p => ((acc ++ [39]) ++ p.1, p.2))) := by
            show _ = _
            rw [HQ.out, HC.out, drop_at h1, quote_two h39 rfl, Option.map_map]
            congr 1
            funext p
            simp
          clear h39 h1
          go_wp2_with (at_builtin; refine wpList_appL bt rfl (.tmp 38) (.tmp 39) rfl w.heap.size _ acc.length acc rfl HO1.out _ 1 1 [39] rfl rfl rfl rfl (by omega) hsz ?_; intro v3 w3 hown3 hb3 _; have HO3 := hide hown3; have HB3 := hide hb3; clear hown3 hb3)
          go_roundg (text.size - (k + 2))
          case measure => omega
          case rel =>
            have hz3 := HB3.out.size
            refine ⟨(k + 2), acc ++ [39], by go_num, rfl, by omega, by rw [HL.out]; omega, by simp; omega, ?_, ?_, HB.out.trans (HB3.out.mono (by omega)), by omega⟩
            · exact HN.out
            · rw [List.length_append]
              exact HO3.out
      · have q39 : ((c.toNat : Int) == 39) = false := by simp; omega
        have HN : Hid (Lex.quote (text.data.toList.drop (at_ + 1)) = (Lex.quote (text.data.toList.drop (k + 1))).map (fun p => ((acc ++ [c]) ++ p.1, p.2))) := by
          show _ = _
          rw [HQ.out, HC.out, quote_other h39, Option.map_map]
          congr 1
          funext p
          simp
        clear h39
        go_wp2_with (at_builtin; refine wpList_appL bt rfl (.tmp 20) (.tmp 24) rfl w.heap.size _ acc.length acc rfl HO1.out _ 1 1 [c] rfl rfl rfl rfl (by omega) hsz ?_; intro v3 w3 hown3 hb3 _; have HO3 := hide hown3; have HB3 := hide hb3; clear hown3 hb3)
        go_roundg (text.size - (k + 1))
        case measure => omega
        case rel =>
          have hz3 := HB3.out.size
          refine ⟨(k + 1), acc ++ [c], by go_num, rfl, by omega, by rw [HL.out]; omega, by simp; omega, ?_, ?_, HB.out.trans (HB3.out.mono (by omega)), by omega⟩
          · exact HN.out
          · rw [List.length_append]
            exact HO3.out
    · have HF : Hid (o = none) := by
        refine HO.out.trans (quoteT_none ?_)
        rw [HQ.out, List.drop_of_length_le (by rw [HL.out]; omega)]
        rfl
      have hkI : ¬ (k : Int) < (text.size : Int) := by omega
      go_wp2_with fail
      exact bodyPost_ret (v := .tuple #[.string ⟨#[]⟩, .int .i64 0, .bool false]) (by simp [results, Try.results36, go_sem]) rfl (SP.no HF.out HB.out)

/-- A byte that is no quote and its neighbour, or no neighbour. -/
theorem pairs_done {c : UInt8} {r : List UInt8} (h : c.toNat = 39) : Lex.pairs (c :: r) = some ([], r) := by
  cases r with
  | nil => simp [Lex.pairs, h]
  | cons d r => simp only [Lex.pairs]; rw [if_pos h]
theorem hex_zero : Lex.hex 0 = false := by decide
theorem pairs_bad {c : UInt8} {l : List UInt8} {k : Nat} (h : c.toNat ≠ 39) (hx : ¬ (Lex.hex c = true ∧ Lex.hex (atB l k) = true)) : Lex.pairs (c :: l.drop k) = none := by
  cases hd : l.drop k with
  | nil => simp [Lex.pairs, h]
  | cons d r =>
    have : atB l k = d := by
      unfold atB
      have : l[k]? = (l.drop k)[0]? := by simp
      rw [this, hd]
      rfl
    rw [this] at hx
    simp only [Lex.pairs]
    rw [if_neg h, if_neg hx]
theorem pairs_next {c : UInt8} {l : List UInt8} {k : Nat} (h : c.toNat ≠ 39) (h1 : Lex.hex c = true) (h2 : Lex.hex (atB l k) = true) : k < l.length ∧ Lex.pairs (c :: l.drop k) = (Lex.pairs (l.drop (k + 1))).map (fun p => (Lex.pair c (atB l k) :: p.1, p.2)) := by
  cases hk : l[k]? with
  | none =>
    unfold atB at h2
    rw [hk] at h2
    exact absurd h2 (by decide)
  | some d =>
    have : atB l k = d := by unfold atB; rw [hk]; rfl
    rw [this] at h2 ⊢
    refine ⟨(List.getElem?_eq_some_iff.1 hk).1, ?_⟩
    rw [drop_at hk]
    simp only [Lex.pairs]
    rw [if_neg h, if_pos ⟨h1, h2⟩]
theorem pairsT_some {l : List UInt8} {at_ k : Nat} {acc : List UInt8} (hk : k ≤ l.length) (h : Lex.pairs (l.drop (at_ + 2)) = some (acc, l.drop k)) : Lex.pairsT (l.drop at_) = if acc.length ≤ 200 then some (4, acc, k - at_) else none := by
  unfold Lex.pairsT
  rw [List.drop_drop, h]
  simp only [List.length_drop]
  rw [show l.length - at_ - (l.length - k) = k - at_ by omega]
theorem pairsT_none {l : List UInt8} {at_ : Nat} (h : Lex.pairs (l.drop (at_ + 2)) = none) : Lex.pairsT (l.drop at_) = none := by
  unfold Lex.pairsT
  rw [List.drop_drop, h]
/-- What holds at the head of a round. -/
def PS (w : World) (l : List UInt8) (at_ k : Nat) (acc : List UInt8) (v : Value) (wr : World) : Prop :=
  acc.length ≤ k ∧ Lex.pairs (l.drop (at_ + 2)) = (Lex.pairs (l.drop k)).map (fun p => (acc ++ p.1, p.2)) ∧ wr.ownsRow w.heap.size 5 1 v acc.length (acc.map B8) ∧ Below w.heap.size w wr ∧ w.heap.size ≤ wr.heap.size
theorem half_of {c : UInt8} (h : Lex.hex c = true) : halfOf c = Lex.worth c := by unfold halfOf; rw [if_pos h]

set_option maxHeartbeats 1600000 in
theorem paired_any (text : ByteArray) (i0 : Int) (at_ : Nat) (w : World) (hi0 : i0 = (at_ : Int) + 1) (hm : text.size ≤ 1099511627776) (hat : at_ + 1 < text.size) :
    Calls Try.prog 35 #[.string text, .int .i64 i0] w (SP w at_ (Lex.pairsT (text.data.toList.drop at_))) := by
  subst hi0
  have HL := hide (str_len text)
  obtain ⟨o, ho⟩ : ∃ o, o = Lex.pairsT (text.data.toList.drop at_) := ⟨_, rfl⟩
  have HO := hide ho
  rw [← ho]
  clear ho
  go_enter Try.func35, Try.ntmps35
  go_wp2_with fail
  go_loopg [7, 1] (text.size + 1 - (at_ + 2)) (fun g v i wr => ∃ (k : Nat) (acc : List UInt8), i = .int .i64 (k : Nat) ∧ g = text.size + 1 - k ∧ at_ + 1 < k ∧ k ≤ text.size + 1 ∧ PS w text.data.toList at_ k acc v wr)
  case atStart => exact ⟨at_ + 2, [], by go_num, rfl, by omega, by omega, by simp, by simp, own_nil _ _ _ _, Below.refl _ _, Nat.le_refl _⟩
  case round =>
    obtain ⟨k, acc, rfl, rfl, hak, hk, hacc, hq, hown, hbel, hsz⟩ := hrel
    have HQ := hide hq
    have HO1 := hide hown
    have HB := hide hbel
    clear hq hown hbel
    by_cases hlt : k < text.size
    · obtain ⟨c, hc, hs⟩ := str_at hlt
      have HC := hide (drop_at hc)
      have hcl := c.toNat_lt
      have hkI : (k : Int) < (text.size : Int) := by omega
      clear hc
      by_cases h39 : c.toNat = 39
      · have q39 : ((c.toNat : Int) == 39) = true := by simp; omega
        have HE : Hid (Lex.pairs (text.data.toList.drop (at_ + 2)) = some (acc, text.data.toList.drop (k + 1))) := by
          show _ = _
          rw [HQ.out, HC.out, pairs_done h39]
          simp
        have HT := hide (HO.out.trans (pairsT_some (by rw [HL.out]; omega) HE.out))
        obtain ⟨A1, c1, rfl, -, -, -⟩ := own_form HO1.out
        have ec := (Rb.own HO1.out).run_string (P := Try.prog) 46 5 9 c1 Try.underlying46 Try.underlying5 Try.underlying9
        by_cases h200 : acc.length ≤ 200
        · have HF := hide (HT.out.trans (if_pos h200))
          have t2 : decide ((acc.length : Int) ≤ 200) = true := by simp; omega
          clear h39 h200
          go_wp2_with fail
          exact bodyPost_ret (v := .tuple #[.string ⟨acc.toArray⟩, .int .i64 ((k : Int) + 1), .bool true]) (by simp [results, Try.results35, go_sem]) rfl (SP.yes HF.out rfl (by omega) HB.out)
        · have HF := hide (HT.out.trans (if_neg h200))
          have t2 : decide ((acc.length : Int) ≤ 200) = false := by simp; omega
          clear h39 h200
          go_wp2_with fail
          exact bodyPost_ret (v := .tuple #[.string ⟨acc.toArray⟩, .int .i64 ((k : Int) + 1), .bool false]) (by simp [results, Try.results35, go_sem]) rfl (SP.no HF.out HB.out)
      · have q39 : ((c.toNat : Int) == 39) = false := by simp; omega
        obtain ⟨d, hd⟩ : ∃ d, d = atB text.data.toList (k + 1) := ⟨_, rfl⟩
        have HD := hide hd
        obtain ⟨x1, hx1⟩ : ∃ b, b = Lex.hex c := ⟨_, rfl⟩
        obtain ⟨x2, hx2⟩ : ∃ b, b = Lex.hex d := ⟨_, rfl⟩
        have H1 := hide hx1
        have H2 := hide hx2
        have H39 := hide h39
        clear hd hx1 hx2 h39
        go_wp2_with fail
        with_reducible refine (half_any c _).mono ?_
        rintro e w' ⟨rfl, rfl⟩
        go_wp2_with fail
        with_reducible refine (rat_any text _ (k + 1) _ (by omega)).mono ?_
        rintro e w' ⟨rfl, rfl⟩
        rw [← HD.out]
        go_wp2_with fail
        with_reducible refine (half_any d _).mono ?_
        rintro e w' ⟨rfl, rfl⟩
        rw [← H1.out, ← H2.out]
        obtain ⟨n1, hn1⟩ : ∃ n, n = halfOf c := ⟨_, rfl⟩
        obtain ⟨n2, hn2⟩ : ∃ n, n = halfOf d := ⟨_, rfl⟩
        rw [← hn1, ← hn2]
        have HN1 := hide hn1
        have HN2 := hide hn2
        clear hn1 hn2
        cases x1 with
        | false =>
          have HF : Hid (o = none) := by
            refine HO.out.trans (pairsT_none ?_)
            rw [HQ.out, HC.out, pairs_bad H39.out (by rw [← H1.out]; simp)]
            rfl
          go_wp2_with fail
          exact bodyPost_ret (v := .tuple #[.string ⟨#[]⟩, .int .i64 0, .bool false]) (by simp [results, Try.results35, go_sem]) rfl (SP.no HF.out HB.out)
        | true =>
          cases x2 with
          | false =>
            have HF : Hid (o = none) := by
              refine HO.out.trans (pairsT_none ?_)
              rw [HQ.out, HC.out, pairs_bad H39.out (by rw [← HD.out, ← H2.out]; simp)]
              rfl
            go_wp2_with fail
            exact bodyPost_ret (v := .tuple #[.string ⟨#[]⟩, .int .i64 0, .bool false]) (by simp [results, Try.results35, go_sem]) rfl (SP.no HF.out HB.out)
          | true =>
            have hnx := pairs_next (l := text.data.toList) (k := k + 1) H39.out H1.out.symm (by rw [← HD.out]; exact H2.out.symm)
            rw [← HD.out] at hnx
            have hk2 : k + 1 < text.size := by have := hnx.1; rw [HL.out] at this; exact this
            have HN : Hid (Lex.pairs (text.data.toList.drop (at_ + 2)) = (Lex.pairs (text.data.toList.drop (k + 2))).map (fun p => ((acc ++ [Lex.pair c d]) ++ p.1, p.2))) := by
              show _ = _
              rw [HQ.out, HC.out, hnx.2, Option.map_map]
              congr 1
              funext p
              simp
            have hw1 : n1 < 16 := by rw [HN1.out, half_of H1.out.symm]; exact worth_lt H1.out.symm
            have hw2 : n2 < 16 := by rw [HN2.out, half_of H2.out.symm]; exact worth_lt H2.out.symm
            have HV : Hid ((#[Value.int .u8 ((n1 : Int) * 16 + (n2 : Int))] : Array Value) = ([Lex.pair c d].map B8).toArray) := by
              show _ = _
              simp only [List.map_cons, List.map_nil]
              unfold B8
              rw [pair_nat H1.out.symm H2.out.symm, ← half_of H1.out.symm, ← half_of H2.out.symm, ← HN1.out, ← HN2.out]
              simp
            clear hnx
            go_wp2_with (at_builtin; refine wpList_appL bt rfl (.tmp 52) (.tmp 57) rfl w.heap.size _ acc.length acc rfl HO1.out _ 1 1 [Lex.pair c d] rfl rfl rfl HV.out (by omega) hsz ?_; intro v3 w3 hown3 hb3 _; have HO3 := hide hown3; have HB3 := hide hb3; clear hown3 hb3)
            go_roundg (text.size + 1 - (k + 2))
            case measure => omega
            case rel =>
              have hz3 := HB3.out.size
              refine ⟨(k + 2), acc ++ [Lex.pair c d], by go_num, rfl, by omega, by omega, by simp; omega, ?_, ?_, HB.out.trans (HB3.out.mono (by omega)), by omega⟩
              · exact HN.out
              · rw [List.length_append]
                exact HO3.out
    · have HF : Hid (o = none) := by
        refine HO.out.trans (pairsT_none ?_)
        rw [HQ.out, List.drop_of_length_le (by rw [HL.out]; omega)]
        rfl
      have hkI : ¬ (k : Int) < (text.size : Int) := by omega
      go_wp2_with fail
      exact bodyPost_ret (v := .tuple #[.string ⟨#[]⟩, .int .i64 0, .bool false]) (by simp [results, Try.results35, go_sem]) rfl (SP.no HF.out HB.out)
end Go.Proofs.Ytfoolkjamadfdaa
