/-
  The walk of chancerylaw19.LexerParts: it returns true. Conditions: the library's number is an int; the texts are within the reach.
-/
import Derived.Test.YtfoolkjamadfdaaSameTok
namespace Go.Proofs.Ytfoolkjamadfdaa
open Go.RowKit

theorem tcells_set : ∀ (ts : List Lex.Tok) (k : Nat) (t : Lex.Tok) (x : Nat), ts[k]? = some t → (tcells ts).set (k * 3 + 2) (.int .i64 ((x : Nat) : Int)) = tcells (ts.set k (t.1, t.2.1, x)) := by
  intro ts
  induction ts with
  | nil => intro k t x h; simp at h
  | cons u ts ih =>
    intro k t x h
    cases k with
    | zero =>
      simp at h
      subst h
      rfl
    | succ k =>
      have := ih k t x (by simpa using h)
      rw [show (k + 1) * 3 + 2 = k * 3 + 2 + 1 + 1 + 1 by omega]
      simp only [tcells, List.set_cons_succ, this]
theorem moved_set (d : Nat) (tb : List Lex.Tok) (k : Nat) (t : Lex.Tok) (h : tb[k]? = some t) : (((Lex.moved d tb).take k ++ tb.drop k).set k (t.1, t.2.1, t.2.2 + d)) = (Lex.moved d tb).take (k + 1) ++ tb.drop (k + 1) := by
  have hlt : k < tb.length := (List.getElem?_eq_some_iff.1 h).1
  have hl : ((Lex.moved d tb).take k).length = k := by simp [Lex.moved]; omega
  have hm : (Lex.moved d tb)[k]? = some (t.1, t.2.1, t.2.2 + d) := by unfold Lex.moved; rw [List.getElem?_map, h]; rfl
  rw [List.set_append_right _ _ (by omega), hl, Nat.sub_self, List.drop_eq_getElem_cons hlt, List.set_cons_zero, List.take_add_one, hm]
  simp
theorem part_at {d : Nat} {tb : List Lex.Tok} {k : Nat} {t : Lex.Tok} (h : tb[k]? = some t) : ((Lex.moved d tb).take k ++ tb.drop k)[k]? = some t := by
  have hlt : k < tb.length := (List.getElem?_eq_some_iff.1 h).1
  have hl : ((Lex.moved d tb).take k).length = k := by simp [Lex.moved]; omega
  rw [List.getElem?_append_right (by omega), hl, Nat.sub_self, List.getElem?_drop]
  simpa using h
theorem run_len : ∀ (n : Nat) (l : List UInt8) (a : Nat) (ts : List Lex.Tok), l.length ≤ n → Lex.run a l = .ok ts → ts.length ≤ l.length ∧ ∀ t ∈ ts, t.2.2 ≤ a + l.length := by
  intro n
  induction n with
  | zero =>
    intro l a ts hn h
    obtain rfl : l = [] := List.eq_nil_of_length_eq_zero (by omega)
    rw [Lex.run_nil rfl] at h
    injection h with h
    subst h
    exact ⟨by simp, fun t ht => by cases ht⟩
  | succ n ih =>
    intro l a ts hn h
    cases hs : Lex.skip false l with
    | nil =>
      rw [Lex.run_nil hs] at h
      injection h with h
      subst h
      exact ⟨by simp, fun t ht => by cases ht⟩
    | cons c r =>
      have hsk := Lex.skip_len l false
      rw [hs] at hsk
      cases ht : Lex.token (c :: r) with
      | none => rw [Lex.run_bad hs ht] at h; cases h
      | some t =>
        obtain ⟨k, s, m⟩ := t
        have hm := Lex.token_len ht
        rw [Lex.run_some hs ht] at h
        cases hr : Lex.run (a + (l.length - (c :: r).length) + m) ((c :: r).drop m) with
        | error e => rw [hr] at h; cases h
        | ok ts' =>
          rw [hr] at h
          simp only [Lex.pre] at h
          injection h with h
          have := ih _ _ ts' (by rw [List.length_drop]; omega) hr
          rw [List.length_drop] at this
          subst h
          refine ⟨by simp only [List.length_append, List.length_cons, List.length_nil]; omega, fun t ht => ?_⟩
          rcases List.mem_append.1 ht with h1 | h1
          · rw [List.mem_singleton.1 h1]
            show a + _ ≤ _
            omega
          · have := this.2 t h1
            omega
theorem told_zero {l : List UInt8} {ts : List Lex.Tok} {p : Nat} (h : Lex.told l = (ts, 0, p)) : p = 0 := by
  unfold Lex.told at h
  cases ht : Lex.tokens l with
  | ok x => rw [ht] at h; simp at h; exact h.2.symm
  | error e =>
    rw [ht] at h
    simp at h
    unfold Lex.tokens at ht
    split at ht
    · injection ht with ht
      rw [← ht] at h
      simp at h
    · split at ht
      · injection ht with ht
        rw [← ht] at h
        simp at h
      · cases ht
theorem told_len (l : List UInt8) : (Lex.told l).1.length ≤ 4096 ∧ ∀ t ∈ (Lex.told l).1, t.2.2 ≤ 4096 := by
  by_cases h : 4096 < l.length
  · rw [Lex.told_long h]
    exact ⟨by simp, fun t ht => by cases ht⟩
  · rw [Lex.told_run l h]
    cases hr : Lex.run 0 l with
    | error e => exact ⟨by simp, fun t ht => by cases ht⟩
    | ok ts =>
      have := run_len _ l 0 ts (Nat.le_refl _) hr
      exact ⟨by simp only; omega, fun t ht => by have := this.2 t ht; omega⟩
theorem run_err : ∀ (n : Nat) (l : List UInt8) (a e : Nat), l.length ≤ n → Lex.run a l = .error e → e ≤ a + l.length := by
  intro n
  induction n with
  | zero =>
    intro l a e hn h
    obtain rfl : l = [] := List.eq_nil_of_length_eq_zero (by omega)
    rw [Lex.run_nil rfl] at h
    cases h
  | succ n ih =>
    intro l a e hn h
    cases hs : Lex.skip false l with
    | nil => rw [Lex.run_nil hs] at h; cases h
    | cons c r =>
      have hsk := Lex.skip_len l false
      rw [hs] at hsk
      cases ht : Lex.token (c :: r) with
      | none =>
        rw [Lex.run_bad hs ht] at h
        injection h with h
        omega
      | some t =>
        obtain ⟨k, s, m⟩ := t
        have hm := Lex.token_len ht
        rw [Lex.run_some hs ht] at h
        cases hr : Lex.run (a + (l.length - (c :: r).length) + m) ((c :: r).drop m) with
        | ok ts' => rw [hr] at h; cases h
        | error e' =>
          rw [hr] at h
          injection h with h
          have := ih _ _ e' (by rw [List.length_drop]; omega) hr
          rw [List.length_drop] at this
          omega
theorem told_place {l : List UInt8} {ts : List Lex.Tok} {e p : Nat} (ht : Lex.told l = (ts, e, p)) : p ≤ 4096 := by
  by_cases h : 4096 < l.length
  · rw [Lex.told_long h] at ht
    simp at ht
    omega
  · rw [Lex.told_run l h] at ht
    cases hr : Lex.run 0 l with
    | error x =>
      have := run_err _ l 0 x (Nat.le_refl _) hr
      rw [hr] at ht
      simp at ht
      omega
    | ok x =>
      rw [hr] at ht
      simp at ht
      omega
theorem Num.put {w : World} {m : Int} (h : Num w m) {g i : Nat} (hg : 0 < g) (u : Value) : Num (w.setCell ⟨g, i, none⟩ u) m := by
  unfold Num at h ⊢
  rw [World.cell?_setCell_other _ _ _ _ (by intro e; injection e with e; omega)]
  exact h
theorem Num.grown {w w' : World} {m : Int} {row : Option Nat} (h : Num w m) (hg : w.grownBy w' row) (hne : some 0 ≠ row) : Num w' m := by
  have hp := h.pos
  have hb := hg.block 0 hp hne
  unfold Num at h ⊢
  unfold World.cell? at h ⊢
  rw [show (⟨0, 0, none⟩ : Addr).block = 0 from rfl] at *
  rw [hb]
  exact h

set_option maxRecDepth 20000 in
set_option maxHeartbeats 8000000 in
theorem lexerParts_any (a b : ByteArray) (m : Int) (w : World) (hM : Num w m) (ha : a.size ≤ 140737488355328) (hb : b.size ≤ 140737488355328) :
    Calls Try.prog 5 #[.string a, .string b] w fun e w' => e = .returned (.bool true) ∧ Below w.heap.size w w' := by
  have hpos := hM.pos
  have HM := hide hM
  have HLa := hide (str_len a)
  have HLb := hide (str_len b)
  have HXa : Hid (a.size ≤ maxLen) := by unfold maxLen; show _ ≤ _; omega
  have HXb : Hid (b.size ≤ maxLen) := by unfold maxLen; show _ ≤ _; omega
  obtain ⟨ta, ea, pa, hta⟩ : ∃ ts e p, Lex.told a.data.toList = (ts, e, p) := ⟨_, _, _, rfl⟩
  obtain ⟨tb, eb, pb, htb⟩ : ∃ ts e p, Lex.told b.data.toList = (ts, e, p) := ⟨_, _, _, rfl⟩
  obtain ⟨J, hJ⟩ : ∃ J : ByteArray, J = a ++ ⟨#[10]⟩ ++ b := ⟨_, rfl⟩
  have hJl : J.data.toList = a.data.toList ++ 10 :: b.data.toList := by rw [hJ]; simp [ByteArray.data_append]
  have hJs : J.size = a.size + 1 + b.size := by rw [← str_len J, hJl, List.length_append, List.length_cons, HLa.out, HLb.out]; omega
  obtain ⟨tj, ej, pj, htj⟩ : ∃ ts e p, Lex.told J.data.toList = (ts, e, p) := ⟨_, _, _, rfl⟩
  have HTa := hide hta
  have HTb := hide htb
  have HTj := hide htj
  have HJ := hide hJ
  have HJl := hide hJl
  have HXj : Hid (J.size ≤ maxLen) := by rw [hJs]; unfold maxLen; show _ ≤ _; omega
  have HJs := hide hJs
  clear hta htb htj hJ hJl hJs hM
  go_enter Try.func5, Try.ntmps5
  go_wp2_with fail
  obtain ⟨w0, hw0⟩ : ∃ x, x = w := ⟨_, rfl⟩
  have HB0 : Hid (Below w.heap.size w w0) := by rw [hw0]; exact Below.refl _ _
  have hz0 : w.heap.size ≤ w0.heap.size := by rw [hw0]; exact Nat.le_refl _
  rw [← hw0] at HM ⊢
  clear hw0
  with_reducible refine (tokens_any a w0 HXa.out).mono ?_
  rintro e w1 hpost
  obtain ⟨Aa, ca, rfl, hoa, hb1, hlca, hcma⟩ := hpost.is HTa.out
  clear hpost
  have HLta := hide (fun g (hg : (Value.slice Aa ta.length ca).ownBlock = some g) => hoa.lt g hg)
  have HOa := hide (show Own _ _ _ _ _ _ _ from hoa)
  clear hoa
  replace HM := hide (HM.out.below hb1 (by omega))
  have HB1 := hide (HB0.out.trans (hb1.mono (by omega)))
  have hz1 := hb1.size
  clear hb1 HB0
  go_wp2_with fail
  obtain ⟨w2, hw2⟩ : ∃ x, x = w1.alloc (.cells #[.int .i64 ((ea : Nat) : Int), .int .i64 ((pa : Nat) : Int)] 25) := ⟨_, rfl⟩
  rw [← hw2]
  have hba2 : Below w1.heap.size w1 w2 := by rw [hw2]; exact (Below.refl _ _).alloc (Nat.le_refl _) _
  have hst2 : w1.heap.size < w2.heap.size := by rw [hw2]; simp
  have HFa : Hid (Blk w2 w1.heap.size 25 #[.int .i64 ((ea : Nat) : Int), .int .i64 ((pa : Nat) : Int)]) := by rw [hw2]; exact Blk.new _ _ _
  clear hw2
  replace HM := hide (HM.out.below hba2 (by omega))
  replace HOa := hide (HOa.out.below hba2 (by omega))
  have HB2 := hide (HB1.out.trans (hba2.mono (by omega)))
  have hz2 := hba2.size
  clear hba2 HB1
  with_reducible refine (tokens_any b w2 HXb.out).mono ?_
  rintro e w3 hpost
  obtain ⟨Ab, cb, rfl, hob, hb3, hlcb, hcmb⟩ := hpost.is HTb.out
  clear hpost
  have HLtb := hide (fun g (hg : (Value.slice Ab tb.length cb).ownBlock = some g) => hob.lt g hg)
  have HOb := hide (show Own _ _ _ _ _ _ _ from hob)
  clear hob
  replace HM := hide (HM.out.below hb3 (by omega))
  replace HOa := hide (HOa.out.below hb3 (by omega))
  replace HFa := hide (HFa.out.below hb3 (by omega))
  have HB3 := hide (HB2.out.trans (hb3.mono (by omega)))
  have hz3 := hb3.size
  clear hb3 HB2
  go_wp2_with fail
  rw [← HJ.out]
  obtain ⟨w4, hw4⟩ : ∃ x, x = w3.alloc (.cells #[.int .i64 ((eb : Nat) : Int), .int .i64 ((pb : Nat) : Int)] 25) := ⟨_, rfl⟩
  rw [← hw4]
  have hba4 : Below w3.heap.size w3 w4 := by rw [hw4]; exact (Below.refl _ _).alloc (Nat.le_refl _) _
  have hst4 : w3.heap.size < w4.heap.size := by rw [hw4]; simp
  have HFb : Hid (Blk w4 w3.heap.size 25 #[.int .i64 ((eb : Nat) : Int), .int .i64 ((pb : Nat) : Int)]) := by rw [hw4]; exact Blk.new _ _ _
  clear hw4
  replace HM := hide (HM.out.below hba4 (by omega))
  replace HOa := hide (HOa.out.below hba4 (by omega))
  replace HFa := hide (HFa.out.below hba4 (by omega))
  replace HOb := hide (HOb.out.below hba4 (by omega))
  have HB4 := hide (HB3.out.trans (hba4.mono (by omega)))
  have hz4 := hba4.size
  clear hba4 HB3
  with_reducible refine (tokens_any J w4 HXj.out).mono ?_
  rintro e w5 hpost
  obtain ⟨Aj, cj, rfl, hoj, hb5, hlcj, hcmj⟩ := hpost.is HTj.out
  clear hpost
  have HLtj := hide (fun g (hg : (Value.slice Aj tj.length cj).ownBlock = some g) => hoj.lt g hg)
  have HOj := hide (show Own _ _ _ _ _ _ _ from hoj)
  clear hoj
  replace HM := hide (HM.out.below hb5 (by omega))
  replace HOa := hide (HOa.out.below hb5 (by omega))
  replace HFa := hide (HFa.out.below hb5 (by omega))
  replace HOb := hide (HOb.out.below hb5 (by omega))
  replace HFb := hide (HFb.out.below hb5 (by omega))
  have HB5 := hide (HB4.out.trans (hb5.mono (by omega)))
  have hz5 := hb5.size
  clear hb5 HB4
  have fa0 : w5.cell? ⟨w1.heap.size, 0, none⟩ = some (.int .i64 ((ea : Nat) : Int)) := HFa.out.cell 0
  have fa1 : w5.cell? ⟨w1.heap.size, 1, none⟩ = some (.int .i64 ((pa : Nat) : Int)) := HFa.out.cell 1
  have fal := HFa.out.lt
  have fb0 : w5.cell? ⟨w3.heap.size, 0, none⟩ = some (.int .i64 ((eb : Nat) : Int)) := HFb.out.cell 0
  have fb1 : w5.cell? ⟨w3.heap.size, 1, none⟩ = some (.int .i64 ((pb : Nat) : Int)) := HFb.out.cell 1
  have fbl := HFb.out.lt
  have u1 := neqF
  have u2 := guardF
  have u3 := eqlF
  by_cases hlong : 4096 < J.size
  · have e1 := HTj.out.symm.trans (Lex.told_long (by rw [str_len]; exact hlong))
    simp only [Prod.mk.injEq] at e1
    obtain ⟨e1a, rfl, rfl⟩ := e1
    have t1 : decide ((4096 : Int) < (a.size : Int) + (b.size : Int) + 1) = true := by have := HJs.out; simp; omega
    clear e1a hlong
    go_wp2_with fail
    with_reducible refine (awake_any m _ (HM.out.alloc _)).mono ?_
    rintro e w' ⟨rfl, hbe⟩
    have HBE := hide ((HB5.out.alloc (by omega) (.cells #[.int .i64 3, .int .i64 0] 25)).trans (hbe.mono (by simp; omega)))
    clear hbe
    go_wp2_with fail
    go_ret
    exact ⟨rfl, HBE.out⟩
  · have HSh : Hid (¬ 4096 < J.data.toList.length) := by rw [str_len]; exact hlong
    have t1 : decide ((4096 : Int) < (a.size : Int) + (b.size : Int) + 1) = false := by have := HJs.out; simp; omega
    have hab : a.size + b.size + 1 ≤ 4096 := by have := HJs.out; omega
    clear hlong
    by_cases hea : ea = 0
    · subst hea
      have hpa : pa = 0 := told_zero HTa.out
      subst hpa
      have HJo := hide (HTj.out.symm.trans ((congrArg Lex.told HJl.out).trans (Lex.told_joined (by decide) (by rw [← HJl.out]; exact HSh.out) HTa.out)))
      rw [HTb.out, HLa.out] at HJo
      have HTl := hide (told_len b.data.toList)
      rw [HTb.out] at HTl
      obtain ⟨d, hd⟩ : ∃ d, d = a.size + 1 := ⟨_, rfl⟩
      rw [← hd] at HJo
      have HD := hide hd
      have hdl : d ≤ 4097 := by omega
      clear hd
      have htl := HTl.out.1
      have htla : ta.length ≤ 4096 := by have := (told_len a.data.toList).1; rw [HTa.out] at this; exact this
      go_wp2_with fail
      obtain ⟨w6, hw6⟩ : ∃ x, x = w5.alloc (.cells #[.int .i64 ((ej : Nat) : Int), .int .i64 ((pj : Nat) : Int)] 25) := ⟨_, rfl⟩
      rw [← hw6]
      have hba6 : Below w5.heap.size w5 w6 := by rw [hw6]; exact (Below.refl _ _).alloc (Nat.le_refl _) _
      have hst6 : w5.heap.size < w6.heap.size := by rw [hw6]; simp
      have HFj : Hid (Blk w6 w5.heap.size 25 #[.int .i64 ((ej : Nat) : Int), .int .i64 ((pj : Nat) : Int)]) := by rw [hw6]; exact Blk.new _ _ _
      clear hw6
      replace HM := hide (HM.out.below hba6 (by omega))
      replace HOa := hide (HOa.out.below hba6 (by omega))
      replace HFa := hide (HFa.out.below hba6 (by omega))
      replace HOb := hide (HOb.out.below hba6 (by omega))
      replace HFb := hide (HFb.out.below hba6 (by omega))
      replace HOj := hide (HOj.out.below hba6 (by omega))
      have HB6 := hide (HB5.out.trans (hba6.mono (by omega)))
      have hz6 := hba6.size
      clear hba6 HB5
      clear fa0 fa1 fal fb0 fb1 fbl u1 u2 u3
      go_loopw [11] (fun i wr => ∃ k : Nat, k ≤ tb.length ∧ i = .int .i64 (k : Nat) ∧ Own wr w2.heap.size 31 3 (.slice Ab tb.length cb) tb.length (tcells ((Lex.moved d tb).take k ++ tb.drop k)) ∧ Own wr w0.heap.size 31 3 (.slice Aa ta.length ca) ta.length (tcells ta) ∧ Own wr w4.heap.size 31 3 (.slice Aj tj.length cj) tj.length (tcells tj) ∧ Blk wr w3.heap.size 25 #[.int .i64 ((eb : Nat) : Int), .int .i64 ((pb : Nat) : Int)] ∧ Blk wr w5.heap.size 25 #[.int .i64 ((ej : Nat) : Int), .int .i64 ((pj : Nat) : Int)] ∧ Num wr m ∧ Below w.heap.size w wr ∧ w6.heap.size ≤ wr.heap.size) (fun i _ => tb.length - (intOf i).toNat)
      case atStart => exact ⟨0, Nat.zero_le _, rfl, by simpa using HOb.out, HOa.out, HOj.out, HFb.out, HFj.out, HM.out, HB6.out, Nat.le_refl _⟩
      case round =>
        obtain ⟨k, hk, rfl, hrb, hra, hrj, hfb, hfj, hnum, hbel, hzr⟩ := hrel
        clear HOb HOa HOj HFb HFj HM HB6 HFa
        have HOb := hide hrb
        have HOa := hide hra
        have HOj := hide hrj
        have HFb := hide hfb
        have HFj := hide hfj
        have HM := hide hnum
        have HB := hide hbel
        clear hrb hra hrj hfb hfj hnum hbel
        by_cases hlt : k < tb.length
        · obtain ⟨gx, cx, hvx, hgb, hgl, -, -⟩ := own_pos HOb.out.row (by omega)
          injection hvx with ex1 _ ex3
          subst ex1 ex3
          obtain ⟨hg2, hg3⟩ := HLtb.out gx rfl
          obtain ⟨kd, st, aa, hat⟩ : ∃ kd st aa, tb[k]? = some (kd, st, aa) := ⟨_, _, _, List.getElem?_eq_getElem hlt⟩
          have haa : aa ≤ 4096 := HTl.out.2 (kd, st, aa) (List.mem_of_getElem? hat)
          have hpt := part_at (d := d) hat
          have hce := (tcells_at _ k _ hpt).2.2
          have hc0 : wr.cell? ⟨gx, k * 3 + 2, none⟩ = some (.int .i64 ((aa : Nat) : Int)) := by
            rw [World.ownsRow.cellAt HOb.out.row _ (by omega)]
            exact hce
          have hf0 := World.ownsRow.frozenAt HOb.out.row (k * 3 + 2)
          have HS := hide (World.ownsRow.stored HOb.out.row (k * 3 + 2) (.int .i64 ((aa + d : Nat) : Int))).1
          rw [tcells_set _ k _ _ hpt, moved_set d tb k _ hat] at HS
          have HV : Hid (Value.int .i64 ((aa : Int) + ((a.size : Int) + 1)) = .int .i64 ((aa + d : Nat) : Int)) := int_eq (by have := HD.out; omega)
          have hkI : (k : Int) < (tb.length : Int) := by omega
          have hka : k * 3 + 2 < k * 3 + 3 := by omega
          clear hat hpt hce
          go_wp2_with fail
          rw [HV.out]
          go_roundw
          case rel =>
            refine ⟨k + 1, hlt, by go_num, HS.out, ?_, ?_, HFb.out.far (show w3.heap.size ≠ gx by omega) _, HFj.out.far (show w5.heap.size ≠ gx by omega) _, HM.out.put (by omega) _, HB.out.setCell (show w.heap.size ≤ gx by omega) _, by simpa using hzr⟩
            · exact ownsRow_setCell_other HOa.out.row (a := ⟨gx, k * 3 + 2, none⟩) (fun e => by have := (HLta.out gx e).2; omega) _
            · exact ownsRow_setCell_below HOj.out.row (show gx < _ by omega) _
          case measure => simp [intOf]; omega
        · obtain rfl : k = tb.length := by omega
          have HMv : Hid (Own wr w2.heap.size 31 3 (.slice Ab tb.length cb) tb.length (tcells (Lex.moved d tb))) := by
            have := HOb.out
            rw [List.take_of_length_le (by simp [Lex.moved]), List.drop_of_length_le (Nat.le_refl _), List.append_nil] at this
            exact this
          have fb0 : wr.cell? ⟨w3.heap.size, 0, none⟩ = some (.int .i64 ((eb : Nat) : Int)) := HFb.out.cell 0
          have fb1 : wr.cell? ⟨w3.heap.size, 1, none⟩ = some (.int .i64 ((pb : Nat) : Int)) := HFb.out.cell 1
          have fj0 : wr.cell? ⟨w5.heap.size, 0, none⟩ = some (.int .i64 ((ej : Nat) : Int)) := HFj.out.cell 0
          have fj1 : wr.cell? ⟨w5.heap.size, 1, none⟩ = some (.int .i64 ((pj : Nat) : Int)) := HFj.out.cell 1
          have u1 := neqF
          have u2 := guardF
          have u3 := eqlF
          clear HOb
          by_cases heb : eb = 0
          · subst heb
            have hpb : pb = 0 := told_zero HTb.out
            subst hpb
            have e1 := HJo.out
            rw [if_pos rfl] at e1
            simp only [Prod.mk.injEq] at e1
            obtain ⟨e1a, rfl, rfl⟩ := e1
            have HTJ := hide e1a
            have htjl : tj.length = ta.length + tb.length := by rw [e1a, List.length_append]; simp [Lex.moved]
            have HJL := hide htjl
            have htjb : tj.length ≤ 8192 := by omega
            clear e1a htjl
            obtain ⟨i0, hi0, hz0', hz1', hz2'⟩ := info_parts infoT
            go_wp2_with (at_builtin; refine wpList_append_rd _ rfl (.tmp 82) (.tmp 83) 22 rfl w0.heap.size 31 i0 _ 3 32 Try.underlying22 hi0 hz0' hz1' hz2' rfl (by omega) _ ta.length (tcells ta) rfl HOa.out.row _ _ tb.length _ _ rfl (Rk.own HMv.out.row) (tcells_one _) (by unfold maxLen; omega) (by omega) (by omega) ?_; intro v7 w7 hown7 hb7 hg7; have HO7 := hide hown7; have HB7 := hide hb7; have HG7 := hide hg7; have fk0 : w7.cell? ⟨w5.heap.size, 0, none⟩ = some (.int .i64 ((0 : Nat) : Int)) := (HFj.out.grown hg7 (fun e => by have := (HLta.out _ e.symm).2; omega)).cell 0; have fk1 : w7.cell? ⟨w5.heap.size, 1, none⟩ = some (.int .i64 ((0 : Nat) : Int)) := (HFj.out.grown hg7 (fun e => by have := (HLta.out _ e.symm).2; omega)).cell 1; clear hown7 hb7 hg7 fb0 fb1 fj0 fj1)
            obtain ⟨A7, c7, rfl⟩ := own_sl HO7.out
            have HR7 : Hid (Rk w7 w7.heap.size A7 tj.length tj) := by
              have := HO7.out
              rw [← tcells_append, ← HTJ.out, ← HJL.out] at this
              exact Rk.own this
            have hagree : ∀ k, (Value.slice Aj tj.length cj).ownBlock = some k → w7.heap[k]? = wr.heap[k]? := by
              intro k hk
              have h1 := HLtj.out k hk
              exact HG7.out.block k (by omega) (fun e => by have := (HLta.out k e.symm).2; omega)
            have HRj : Hid (Rk w7 w7.heap.size Aj tj.length tj) := Rk.own (own_agree HOj.out.row hagree)
            have HM7 := hide (HM.out.grown HG7.out (fun e => by have := (HLta.out 0 e.symm).1; omega))
            have HB7' := hide (HB.out.trans (HB7.out.mono (by omega)))
            have hz7 := HB7.out.size
            rw [← HJL.out]
            clear hagree HO7 HB7 HG7 HB u1 u2 u3 fk0 fk1
            with_reducible refine (same_any A7 Aj tj.length c7 tj.length cj tj tj w7 _ _ HR7.out HRj.out (by omega)).mono ?_
            rintro e w' ⟨b7, rfl, hb7, q7, rfl⟩
            obtain rfl : b7 = true := hb7.2 rfl
            clear hb7
            go_wp2_with fail
            go_loopw [12] (fun i wx => ∃ k q : Nat, k ≤ tj.length ∧ i = .int .i64 (k : Nat) ∧ wx = w7.drewN q) (fun i _ => tj.length - (intOf i).toNat)
            case atStart => exact ⟨0, q7, Nat.zero_le _, rfl, rfl⟩
            case round =>
              obtain ⟨k, q, hk, rfl, rfl⟩ := hrel
              by_cases hlt : k < tj.length
              · obtain ⟨bx, offx, kd, ss, aa, rfl, _, hx, _, _, h2⟩ := HR7.out.at hlt
                obtain ⟨by', offy, kd', ss', aa', rfl, _, hy, _, _, h2'⟩ := HRj.out.at hlt
                have haa : aa = aa' := by
                  rw [hx] at hy
                  injection hy with hy
                  injection hy with _ hy
                  injection hy
                subst haa
                have q1 : ((aa : Int) != (aa : Int)) = false := by simp
                have hkI : (k : Int) < (tj.length : Int) := by omega
                clear hx hy
                go_wp2_with fail
                go_quiet (fail)
                go_wp2
                go_roundw
                case rel => exact ⟨k + 1, _, by omega, by go_num, rfl⟩
                case measure => simp [intOf]; omega
              · obtain rfl : k = tj.length := by omega
                go_wp2_with fail
                with_reducible refine (awake_any m _ (HM7.out.drewE rfl)).mono ?_
                rintro e w' ⟨rfl, hbe⟩
                have HBE := hide ((below_drewN HB7'.out q).trans (hbe.mono (by simp; omega)))
                clear hbe
                go_wp2_with fail
                go_ret
                exact ⟨rfl, HBE.out⟩
          · have e1 := HJo.out
            rw [if_neg heb] at e1
            simp only [Prod.mk.injEq] at e1
            obtain ⟨e1a, e1b, e1c⟩ := e1
            have q1 : ((ej : Int) == (eb : Int)) = true := by rw [e1b]; simp
            have q2 : ((pj : Int) == (pb : Int) + (a.size : Int) + 1) = true := by have := HD.out; rw [beq_iff_eq, e1c]; omega
            have q3 : ((eb : Int) == 0) = false := by simp; exact heb
            have hpb : pb ≤ 4096 := told_place HTb.out
            clear e1a e1b e1c heb
            go_wp2_with fail
            with_reducible refine (awake_any m _ HM.out).mono ?_
            rintro e w' ⟨rfl, hbe⟩
            have HBE := hide (HB.out.trans (hbe.mono (by omega)))
            clear hbe
            go_wp2_with fail
            go_ret
            exact ⟨rfl, HBE.out⟩
    · have q1 : ((ea : Int) == 0) = false := by simp; exact hea
      clear hea
      go_wp2_with fail
      with_reducible refine (awake_any m _ (HM.out.alloc _)).mono ?_
      rintro e w' ⟨rfl, hbe⟩
      have HBE := hide ((HB5.out.alloc (by omega) (.cells #[.int .i64 ((ej : Nat) : Int), .int .i64 ((pj : Nat) : Int)] 25)).trans (hbe.mono (by simp; omega)))
      clear hbe
      go_wp2_with fail
      go_ret
      exact ⟨rfl, HBE.out⟩
end Go.Proofs.Ytfoolkjamadfdaa
