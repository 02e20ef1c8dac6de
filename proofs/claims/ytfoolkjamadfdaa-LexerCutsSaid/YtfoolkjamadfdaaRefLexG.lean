/-
  The walk of chanceryref19.one, all cases joined: it is Lex.token. Conditions: the text has at most 2^40 bytes.
-/
import Derived.Test.YtfoolkjamadfdaaRefLexD
import Derived.Test.YtfoolkjamadfdaaRefLexE
import Derived.Test.YtfoolkjamadfdaaRefLexF
namespace Go.Proofs.Ytfoolkjamadfdaa
open Go.RowKit

theorem signT_drop {l : List UInt8} {i : Nat} {c : UInt8} (hc : l[i]? = some c) : Lex.signT (l.drop i) = if (c.toNat = 60 ∧ (Lex.isAt l (i + 1) 62 = true ∨ Lex.isAt l (i + 1) 61 = true)) ∨ (c.toNat = 62 ∧ Lex.isAt l (i + 1) 61 = true) then some (5, (l.drop i).take 2, 2) else if c ∈ Lex.signs then some (5, (l.drop i).take 1, 1) else none := by
  have e : ∀ d, Lex.isAt l (i + 1) d = Lex.isAt (l.drop (i + 1)) 0 d := by intro d; rw [Lex.isAt_drop]
  rw [e, e, drop_at hc]
  rfl
theorem isAt_lt {s : ByteArray} {i : Nat} {c : UInt8} (h : Lex.isAt s.data.toList i c = true) : i < s.size := by
  unfold Lex.isAt at h
  rw [decide_eq_true_eq] at h
  have := (List.getElem?_eq_some_iff.1 h).1
  rw [str_len] at this
  exact this
theorem one_any (text : ByteArray) (at_ : Nat) (w : World) (hm : text.size ≤ 1099511627776) (hat : at_ < text.size) :
    Calls Try.prog 18 #[.string text, .int .i64 (at_ : Int)] w (TQ w at_ (Lex.token (text.data.toList.drop at_))) := by
  obtain ⟨c, hc, hs⟩ := str_at hat
  by_cases h1 : c.toNat = 120 ∧ Lex.isAt text.data.toList (at_ + 1) 39 = true
  · exact one_bytes text at_ w hm hat c hc h1.1 h1.2
  cases hlet : Lex.letter c with
  | true => exact one_word text at_ w hm hat c hc hlet h1
  | false =>
    cases hdig : Lex.digit c with
    | true => exact one_number text at_ w hm hat c hc hlet hdig
    | false =>
      by_cases h39 : c.toNat = 39
      · exact one_quote text at_ w hm hat c hc h39
      · rw [token_drop hc, if_neg h1, if_neg (by rw [hlet]; simp), if_neg (by rw [hdig]; simp), if_neg h39, signT_drop hc]
        by_cases hno : c ∈ Lex.signs
        · by_cases h60 : c.toNat = 60
          · cases h62 : Lex.isAt text.data.toList (at_ + 1) 62 with
            | true =>
              rw [if_pos (.inl ⟨h60, .inl rfl⟩)]
              exact one_sign_60_62 text at_ w hm hat c hs h60 h62 (isAt_lt h62)
            | false =>
              cases h61 : Lex.isAt text.data.toList (at_ + 1) 61 with
              | true =>
                rw [if_pos (.inl ⟨h60, .inr rfl⟩)]
                exact one_sign_60_61 text at_ w hm hat c hs h60 h62 h61 (isAt_lt h61)
              | false =>
                rw [if_neg (by simp), if_pos hno]
                exact one_sign_60 text at_ w hm hat c hs h60 h62 h61
          · by_cases h62 : c.toNat = 62
            · cases h61 : Lex.isAt text.data.toList (at_ + 1) 61 with
              | true =>
                rw [if_pos (.inr ⟨h62, rfl⟩)]
                exact one_sign_62_61 text at_ w hm hat c hs h62 h61 (isAt_lt h61)
              | false =>
                rw [if_neg (by simp [h60]), if_pos hno]
                exact one_sign_62 text at_ w hm hat c hs h62 h61
            · rw [if_neg (by simp [h60, h62]), if_pos hno]
              have hno' := hno
              simp only [Lex.signs, List.mem_cons, List.not_mem_nil, or_false] at hno'
              rcases hno' with h | h | h | h | h | h | h | h | h | h | h
              · exact one_sign_40 text at_ w hm hat c hs (by rw [h]; rfl)
              · exact one_sign_41 text at_ w hm hat c hs (by rw [h]; rfl)
              · exact one_sign_44 text at_ w hm hat c hs (by rw [h]; rfl)
              · exact one_sign_46 text at_ w hm hat c hs (by rw [h]; rfl)
              · exact one_sign_59 text at_ w hm hat c hs (by rw [h]; rfl)
              · exact one_sign_43 text at_ w hm hat c hs (by rw [h]; rfl)
              · exact one_sign_45 text at_ w hm hat c hs (by rw [h]; rfl)
              · exact one_sign_42 text at_ w hm hat c hs (by rw [h]; rfl)
              · exact one_sign_61 text at_ w hm hat c hs (by rw [h]; rfl)
              · exact absurd (by rw [h]; rfl) h60
              · exact absurd (by rw [h]; rfl) h62
        · have hn60 : c.toNat ≠ 60 := fun h => hno (by have : c = 60 := UInt8.toNat_inj.1 h; rw [this]; decide)
          have hn62 : c.toNat ≠ 62 := fun h => hno (by have : c = 62 := UInt8.toNat_inj.1 h; rw [this]; decide)
          rw [if_neg (by simp [hn60, hn62]), if_neg hno]
          exact one_sign_no text at_ w hm hat c hs hlet hdig h39 hno
end Go.Proofs.Ytfoolkjamadfdaa
