/-
  The walk of lexer.Tokens: it is Lex.told. Conditions: the text's length is an int.
-/
import Derived.Test.YtfoolkjamadfdaaDoorLexT
import Derived.Test.YtfoolkjamadfdaaDoorTokMath
namespace Go.Proofs.YtfoolkjamadfdaaDoor
open Go.RowKit

/-- The cells of tokens. -/
def tcells : List Lex.Tok → List Value
  | [] => []
  | t :: r => .int .u8 (t.1.toNat : Int) :: .string ⟨t.2.1.toArray⟩ :: .int .i64 ((t.2.2 : Nat) : Int) :: tcells r
theorem tcells_len : ∀ r : List Lex.Tok, (tcells r).length = r.length * 3 := by
  intro r
  induction r with
  | nil => rfl
  | cons v r ih => simp only [tcells, List.length_cons, ih]; omega
theorem tcells_append : ∀ r r' : List Lex.Tok, tcells (r ++ r') = tcells r ++ tcells r' := by
  intro r
  induction r with
  | nil => intro r'; rfl
  | cons v r ih => intro r'; simp only [List.cons_append, tcells, ih]
theorem tcells_one (r : List Lex.Tok) : ∀ u ∈ tcells r, u.oneCell' = true := by
  induction r with
  | nil => intro u hu; cases hu
  | cons v r ih =>
    intro u hu
    simp only [tcells, List.mem_cons] at hu
    rcases hu with rfl | rfl | rfl | hu
    · rfl
    · rfl
    · rfl
    · exact ih u hu
theorem tcells_at : ∀ (r : List Lex.Tok) (i : Nat) (t : Lex.Tok), r[i]? = some t → (tcells r)[i * 3]? = some (.int .u8 (t.1.toNat : Int)) ∧ (tcells r)[i * 3 + 1]? = some (.string ⟨t.2.1.toArray⟩) ∧ (tcells r)[i * 3 + 2]? = some (.int .i64 ((t.2.2 : Nat) : Int)) := by
  intro r
  induction r with
  | nil => intro i v h; simp at h
  | cons u r ih =>
    intro i v h
    cases i with
    | zero => simp at h; subst h; simp [tcells]
    | succ i =>
      have := ih i v (by simpa using h)
      rw [show (i + 1) * 3 = i * 3 + 1 + 1 + 1 by omega]
      simpa [tcells] using this
theorem infoT : (Tryd.prog.info? 32).map (fun i => (i.zero, i.size, i.bytes)) = some (some (.agg #[.int .u8 0, .string ByteArray.empty, .int .i64 0]), 3, 32) := by kernel_rfl
theorem wpList_appT {ops : Array Oper} {rest : List Oper} {o : Oper} {a : Act} {Q : Exit → Act → World → Prop} {w0 : World} {cs : Array Value} {mk : Nat × Nat} {t : TypeId} (ht : Tryd.prog.underlying t = some (.slice 32)) (hgd : o.guard = none) (s x : Operand)
    (ho : o.op = .call { callee := .builtin .append, args := #[s, x], argTypes := #[t, t] })
    (base : Nat) (v : Value) (n : Nat) (vs : List Lex.Tok) (hs : a.eval s = v) (hown : w0.ownsRow base 32 3 v n (tcells vs))
    (c : Nat) (tk : Lex.Tok) (g : Nat) (hg : g = w0.heap.size) (hx : a.eval x = .slice (some ⟨g, 0, none⟩) 1 c) (hcs : cs = #[.int .u8 (tk.1.toNat : Int), .string ⟨tk.2.1.toArray⟩, .int .i64 ((tk.2.2 : Nat) : Int)]) (hn : (n + 1) * 32 ≤ 140737488355328) (hbase : base ≤ w0.heap.size)
    (h : ∀ v' w', w'.ownsRow base 32 3 v' (n + 1) (tcells (vs ++ [tk])) → Below base w0 w' → wpList Tryd.prog ops Q rest (a.put o.dst v') w') : wpList Tryd.prog ops Q (o :: rest) a (w0.alloc (.cells cs 32 mk)) := by
  subst hcs hg
  obtain ⟨i0, hi0, hz0, hz1, hz2⟩ := info_parts infoT
  have hr : Rd (w0.alloc (.cells #[.int .u8 (tk.1.toNat : Int), .string ⟨tk.2.1.toArray⟩, .int .i64 ((tk.2.2 : Nat) : Int)] 32 mk)) (w0.heap.size + 1) 3 (some ⟨w0.heap.size, 0, none⟩) 1 (tcells [tk]) := by
    have := Rd.lit w0 32 (tcells [tk]) mk
    refine ⟨rfl, fun _ => ?_⟩
    exact this.2 (by show 0 < 3; omega)
  refine wpList_append_rd (w0.alloc _) hgd s x t ho base 32 i0 _ 3 32 ht hi0 hz0 hz1 hz2 rfl (by omega) v n _ hs (hown.alloc _) _ _ 1 c _ hx hr (tcells_one _) (by unfold maxLen; omega) hn (by simp; omega) ?_
  intro v' w' h1 h2 h3
  rw [← tcells_append] at h1
  exact h v' w' h1 (((Below.refl _ _).alloc hbase _).trans h2)

/-- Tokens of the call's own, and a fault. -/
def TE (w : World) (p : List Lex.Tok × Nat × Nat) (e : Ending) (w' : World) : Prop :=
  ∃ v, e = .returned (.tuple #[v, .agg #[.int .i64 ((p.2.1 : Nat) : Int), .int .i64 ((p.2.2 : Nat) : Int)]]) ∧ w'.ownsRow w.heap.size 32 3 v p.1.length (tcells p.1) ∧ Below w.heap.size w w'
theorem TE.mk {w w' : World} {p : List Lex.Tok × Nat × Nat} {ts : List Lex.Tok} {a b : Nat} {x y : Int} {v : Value} (h : p = (ts, a, b)) (hx : x = (a : Int)) (hy : y = (b : Int)) (ho : w'.ownsRow w.heap.size 32 3 v ts.length (tcells ts)) (hb : Below w.heap.size w w') : TE w p (.returned (.tuple #[v, .agg #[.int .i64 x, .int .i64 y]])) w' := by
  subst h hx hy
  exact ⟨v, rfl, ho, hb⟩
/-- What holds at the head of a round. -/
def KR (w : World) (l : List UInt8) (f k : Nat) (acc : List Lex.Tok) (v : Value) (wr : World) : Prop :=
  k ≤ l.length ∧ acc.length ≤ k ∧ l.length ≤ f + k ∧ Lex.toks (l.length + 1) 0 l = Lex.pre acc (Lex.head l f k) ∧ wr.ownsRow (w.heap.size + 1) 32 3 v acc.length (tcells acc) ∧ Below w.heap.size w wr ∧ Blk wr w.heap.size 25 #[.int .i64 0, .int .i64 0] ∧ w.heap.size + 1 ≤ wr.heap.size
theorem TP.case {w w' : World} {at_ : Nat} {o : Option (UInt8 × List UInt8 × Nat)} {e : Ending} (h : TP w at_ o e w') : (o = none ∧ ∃ k s a n, e = .returned (.tuple #[.agg #[.int .u8 k, .string s, .int .i64 a], .int .i64 n, .bool false]) ∧ Below w.heap.size w w') ∨ ∃ k s n, o = some (k, s, n) ∧ e = .returned (.tuple #[.agg #[.int .u8 (k.toNat : Int), .string ⟨s.toArray⟩, .int .i64 0], .int .i64 ((at_ + n : Nat) : Int), .bool true]) ∧ Below w.heap.size w w' := by
  match o, h with
  | none, h => exact .inl ⟨rfl, h⟩
  | some (k, s, n), h => exact .inr ⟨k, s, n, rfl, h.1, h.2⟩

theorem skip_at (text : ByteArray) (x : Int) (at_ : Nat) (w : World) (hx : x = (at_ : Int)) (hm : text.size + 4 ≤ 9223372036854775807) (hat : at_ ≤ text.size) :
    Calls Tryd.prog 8 #[.string text, .int .i64 x] w fun e w' => e = .returned (.int .i64 ((Lex.skipAt text.data.toList at_ : Nat) : Int)) ∧ w = w' := by
  subst hx
  exact skip_any text at_ w hm hat

set_option maxRecDepth 8000 in
set_option maxHeartbeats 3200000 in
theorem tokens_any (text : ByteArray) (w : World) (hm : text.size ≤ maxLen) :
    Calls Tryd.prog 4 #[.string text] w (TE w (Lex.told text.data.toList)) := by
  unfold maxLen at hm
  have HL := hide (str_len text)
  obtain ⟨p, hp⟩ : ∃ p, p = Lex.told text.data.toList := ⟨_, rfl⟩
  rw [← hp]
  have HP := hide hp
  clear hp
  by_cases hlong : 4096 < text.size
  · have HF := hide (HP.out.trans (Lex.told_long (by rw [HL.out]; exact hlong)))
    have t1 : decide ((4096 : Int) < (text.size : Int)) = true := by simp; omega
    clear hlong
    go_enter Tryd.func4, Tryd.ntmps4
    go_wp2_with fail
    exact bodyPost_ret (v := .tuple #[.slice none 0 0, .agg #[.int .i64 3, .int .i64 0]]) (by simp [results, Tryd.results4, go_sem]) rfl (TE.mk HF.out rfl rfl (own_nil _ _ _ _) ((Below.refl _ _).alloc (Nat.le_refl _) _))
  · have t1 : decide ((4096 : Int) < (text.size : Int)) = false := by simp; omega
    have hm2 : text.size ≤ 4096 := by omega
    have HNL : Hid (¬ 4096 < text.data.toList.length) := by rw [HL.out]; exact hlong
    clear hlong hm
    go_enter Tryd.func4, Tryd.ntmps4
    go_wp2_with fail
    with_reducible refine (skip_at text _ 0 _ (by omega) (by omega) (by omega)).mono ?_
    rintro e w' ⟨rfl, rfl⟩
    obtain ⟨k0, hk0⟩ : ∃ x, x = Lex.skipAt text.data.toList 0 := ⟨_, rfl⟩
    have hk0l : k0 ≤ text.size := by
      have := (Lex.skipAt_le text.data.toList 0 (by omega)).2.1
      rw [HL.out] at this
      omega
    have HK0 : Hid (Lex.toks (text.data.toList.length + 1) 0 text.data.toList = Lex.head text.data.toList text.data.toList.length k0) := by
      have := Lex.toks_head text.data.toList text.data.toList.length 0 (by omega)
      rw [List.drop_zero, ← hk0] at this
      exact this
    rw [← hk0]
    clear hk0
    go_wp2_with fail
    go_loopg [4, 5] (text.size - k0) (fun g v i wr => ∃ (k f : Nat) (acc : List Lex.Tok), g = text.size - k ∧ i = .int .i64 (k : Nat) ∧ KR w text.data.toList f k acc v wr)
    case atStart => exact ⟨k0, text.data.toList.length, [], rfl, rfl, by rw [HL.out]; exact hk0l, by simp, by omega, by rw [Lex.pre_nil]; exact HK0.out, own_nil _ _ _ _, (Below.refl _ _).alloc (Nat.le_refl _) _, Blk.new _ _ _, by simp⟩
    case round =>
      obtain ⟨k, f, acc, rfl, rfl, hk, hacc, hf, htk, hown, hbel, hblk, hsz⟩ := hrel
      rw [HL.out] at hk hf
      have HT := hide htk
      have HO1 := hide hown
      have HB := hide hbel
      have HK := hide hblk
      clear htk hown hbel hblk HK0
      by_cases hlt : k < text.size
      · have hkI : (k : Int) < (text.size : Int) := by omega
        have HLt : Hid (¬ text.data.toList.length ≤ k) := by rw [HL.out]; show ¬ _; omega
        go_wp2_with fail
        with_reducible refine (token_any text k _ (by omega) hlt).mono ?_
        intro e w2 hpost
        rcases hpost.case with ⟨hno, k2, s2, a2, n2, rfl, hb2⟩ | ⟨k2, s2, n2, hyes, rfl, hb2⟩
        · have HF := hide (HP.out.trans (Lex.told_error HNL.out (HT.out.trans (Lex.head_bad HLt.out hno))))
          have hblk := HK.out.below hb2 (by omega)
          have HB2 := hide (HB.out.trans (hb2.mono (by omega)))
          have d0 : w2.cell? ⟨w.heap.size, 0, none⟩ = some (.int .i64 0) := hblk.cell 0
          have d1 : w2.cell? ⟨w.heap.size, 1, none⟩ = some (.int .i64 0) := hblk.cell 1
          have f0 := hblk.frozen 0
          have f1 := hblk.frozen 1
          have hlt0 := hblk.lt
          have hne : w.heap.size ≠ w2.heap.size := by omega
          have hz2 := hb2.size
          clear hpost hno hb2 hblk
          go_wp2_with fail
          refine bodyPost_ret (v := .tuple #[.slice none 0 0, .agg #[.int .i64 290, .int .i64 (k : Int)]]) (by simp [results, Tryd.results4, go_sem, d0, d1, hlt0]) rfl (TE.mk HF.out rfl rfl (own_nil _ _ _ _) ?_)
          exact ((HB2.out.setCell (show w.heap.size ≤ w.heap.size from Nat.le_refl _) _).setCell (show w.heap.size ≤ w.heap.size from Nat.le_refl _) _).alloc (by simp; omega) _
        · have hl2 := Lex.token_len hyes
          rw [List.length_drop, HL.out] at hl2
          obtain ⟨hl2a, hl2b, -⟩ := hl2
          have HN := hide (HT.out.trans (Lex.head_next (acc := acc) HLt.out hyes (by omega)))
          have HO2 := hide (own_below HO1.out hb2)
          have HK2 := hide (HK.out.below hb2 (by omega))
          have HB2 := hide (HB.out.trans (hb2.mono (by omega)))
          have hz2 := hb2.size
          clear hpost hyes hb2 HO1 HK HB HT
          go_wp2_with (at_builtin; refine wpList_appT Tryd.underlying22 rfl (.tmp 32) (.tmp 34) rfl (w.heap.size + 1) _ acc.length acc rfl (HO2.out.alloc _) 1 (k2, s2, k) (w2.heap.size + 1) (by simp) rfl rfl (by omega) (by simp; omega) ?_; intro v3 w3 hown3 hb3; have HO3 := hide hown3; have HB3 := hide hb3; clear hown3 hb3)
          with_reducible refine (skip_at text _ (k + n2) _ (by omega) (by omega) (by omega)).mono ?_
          rintro e w' ⟨rfl, rfl⟩
          have hsk := Lex.skipAt_le text.data.toList (k + n2) (by rw [HL.out]; omega)
          rw [HL.out] at hsk
          obtain ⟨hsk1, hsk2, -⟩ := hsk
          obtain ⟨k3, hk3⟩ : ∃ x, x = Lex.skipAt text.data.toList (k + n2) := ⟨_, rfl⟩
          rw [← hk3] at HN hsk1 hsk2 ⊢
          clear hk3
          go_wp2_with fail
          go_roundg (text.size - k3)
          case measure => omega
          case rel =>
            have hz3 := HB3.out.size
            simp at hz3
            refine ⟨k3, f - 1, acc ++ [(k2, s2, k)], rfl, rfl, by rw [HL.out]; exact hsk2, by simp; omega, by rw [HL.out]; omega, HN.out, ?_, ?_, ?_, by omega⟩
            · rw [List.length_append]
              exact HO3.out
            · exact (HB2.out.alloc (by omega) _).trans (HB3.out.mono (by omega))
            · exact (HK2.out.alloc _).below HB3.out (by omega)
      · obtain rfl : k = text.size := by omega
        have HF := hide (HP.out.trans (Lex.told_ok HNL.out (HT.out.trans (Lex.head_end (by rw [HL.out]; exact Nat.le_refl _)))))
        obtain ⟨A1, c1, rfl⟩ := own_sl HO1.out
        have hblk := HK.out
        have d0 : wr.cell? ⟨w.heap.size, 0, none⟩ = some (.int .i64 0) := hblk.cell 0
        have d1 : wr.cell? ⟨w.heap.size, 1, none⟩ = some (.int .i64 0) := hblk.cell 1
        have f0 := hblk.frozen 0
        have f1 := hblk.frozen 1
        have hlt0 := hblk.lt
        clear hblk
        go_wp2_with fail
        refine bodyPost_ret (v := .tuple #[.slice A1 acc.length c1, .agg #[.int .i64 0, .int .i64 0]]) (by simp [results, Tryd.results4, go_sem, d0, d1]) rfl (TE.mk HF.out rfl rfl ?_ ((HB.out.setCell (Nat.le_refl _) _).setCell (Nat.le_refl _) _))
        exact own_base (ownsRow_setCell_below (ownsRow_setCell_below HO1.out (show w.heap.size < w.heap.size + 1 by omega) _) (show w.heap.size < w.heap.size + 1 by omega) _) (by omega)
end Go.Proofs.YtfoolkjamadfdaaDoor
