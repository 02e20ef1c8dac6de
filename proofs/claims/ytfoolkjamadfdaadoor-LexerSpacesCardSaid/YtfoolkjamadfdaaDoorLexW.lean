/-
  Plain: words, names, reserved words; the walks of the lexer's word, Reserved, Name; comparing tokens and faults. Conditions: the library's number is an int.
-/
import Derived.Test.YtfoolkjamadfdaaDoorLexK
import Derived.Laws.StructEq
namespace Go.Proofs.YtfoolkjamadfdaaDoor
open Go.RowKit

/-- The reserved words, a blank on either side of each. -/
def Lex.words : List UInt8 := [32, 97, 99, 116, 105, 111, 110, 32, 97, 100, 100, 32, 97, 108, 108, 32, 97, 110, 100, 32, 97, 115, 32, 97, 115, 99, 32, 98, 101, 103, 105, 110, 32, 98, 111, 111, 108, 32, 98, 121, 116, 101, 115, 32, 99, 97, 115, 99, 97, 100, 101, 32, 99, 104, 101, 99, 107, 32, 99, 111, 109, 109, 105, 116, 32, 99, 111, 117, 110, 116, 32, 99, 114, 101, 97, 116, 101, 32, 100, 101, 99, 32, 100, 101, 108, 101, 116, 101, 32, 100, 101, 115, 99, 32, 100, 114, 111, 112, 32, 102, 97, 108, 115, 101, 32, 102, 114, 111, 109, 32, 103, 114, 97, 110, 116, 32, 103, 114, 111, 117, 112, 32, 98, 121, 32, 105, 110, 115, 101, 114, 116, 32, 105, 110, 116, 32, 105, 110, 116, 111, 32, 105, 115, 32, 106, 111, 105, 110, 32, 107, 101, 121, 32, 108, 105, 109, 105, 116, 32, 109, 97, 120, 32, 109, 105, 110, 32, 110, 111, 116, 32, 110, 117, 108, 108, 32, 111, 110, 32, 111, 112, 116, 105, 111, 110, 32, 111, 114, 32, 111, 114, 100, 101, 114, 32, 112, 111, 108, 105, 99, 121, 32, 112, 114, 105, 109, 97, 114, 121, 32, 114, 101, 102, 101, 114, 101, 110, 99, 101, 115, 32, 114, 101, 115, 116, 114, 105, 99, 116, 32, 114, 101, 118, 111, 107, 101, 32, 114, 111, 108, 101, 32, 114, 111, 108, 108, 98, 97, 99, 107, 32, 115, 101, 108, 101, 99, 116, 32, 115, 101, 116, 32, 115, 117, 109, 32, 116, 97, 98, 108, 101, 32, 116, 101, 120, 116, 32, 116, 111, 32, 116, 114, 105, 103, 103, 101, 114, 32, 116, 114, 117, 101, 32, 117, 110, 105, 113, 117, 101, 32, 117, 112, 100, 97, 116, 101, 32, 117, 115, 101, 114, 32, 117, 115, 105, 110, 103, 32, 118, 97, 108, 117, 101, 115, 32, 118, 105, 101, 119, 32, 119, 104, 101, 114, 101, 32, 119, 105, 116, 104, 32, 97, 102, 116, 101, 114, 32]
def Lex.word (l : List UInt8) : Bool := decide (1 ≤ l.length) && (decide (l.length ≤ 24) && ((match l with | [] => false | c :: _ => Lex.letter c) && decide (Lex.span Lex.inWord l = l.length)))
def Lex.reserved (l : List UInt8) : Bool := Lex.word l && Lib.contains Lex.words (32 :: (l ++ [32]))
def Lex.name (l : List UInt8) : Bool := Lex.word l && !Lex.reserved l

theorem eqGuardT : Tryd.prog.eqGuardType Tryd.prog.depth 32 = false := by kernel_rfl
theorem stoodT : Tryd.prog.stoodInHeld 32 = false := by kernel_rfl
theorem fieldsT : Tryd.prog.underlying 32 = some (.struct (Tryd.prog.fieldsOf 32)) := by kernel_rfl
theorem fieldsTL : (Tryd.prog.fieldsOf 32).toList.map (fun f => (f.name, f.type, f.offset)) = [("Kind", 30, 0), ("S", 9, 1), ("At", 3, 2)] := by kernel_rfl
theorem eqGuardF : Tryd.prog.eqGuardType Tryd.prog.depth 25 = false := by kernel_rfl
theorem stoodF : Tryd.prog.stoodInHeld 25 = false := by kernel_rfl
theorem fieldsF : Tryd.prog.underlying 25 = some (.struct (Tryd.prog.fieldsOf 25)) := by kernel_rfl
theorem fieldsFL : (Tryd.prog.fieldsOf 25).toList.map (fun f => (f.name, f.type, f.offset)) = [("Err", 23, 0), ("At", 3, 1)] := by kernel_rfl
theorem three {α : Type} {l : List α} {β : Type} {f : α → β} {a b c : β} (h : l.map f = [a, b, c]) : ∃ x y z, l = [x, y, z] ∧ f x = a ∧ f y = b ∧ f z = c := by
  match l, h with
  | [x, y, z], h => simp at h; exact ⟨x, y, z, rfl, h.1, h.2.1, h.2.2⟩
theorem twain {α : Type} {l : List α} {β : Type} {f : α → β} {a b : β} (h : l.map f = [a, b]) : ∃ x y, l = [x, y] ∧ f x = a ∧ f y = b := by
  match l, h with
  | [x, y], h => simp at h; exact ⟨x, y, rfl, h.1, h.2⟩
theorem equalT (w : World) (k a k' a' : Int) (s s' : ByteArray) : (Op.equalIn 10000 32 (.agg #[.int .u8 k, .string s, .int .i64 a]) (.agg #[.int .u8 k', .string s', .int .i64 a'])).run Tryd.prog w = .ok ((k == k') && ((s.toList == s'.toList) && (a == a'))) w := by
  rw [run_equalIn_agg w 9999 32 _ _ fieldsT stoodT]
  obtain ⟨x, y, z, hl, hx, hy, hz⟩ := three fieldsTL
  rw [hl]
  obtain ⟨xn, xt, xo⟩ := x
  obtain ⟨yn, yt, yo⟩ := y
  obtain ⟨zn, zt, zo⟩ := z
  simp only [Prod.mk.injEq] at hx hy hz
  obtain ⟨rfl, rfl, rfl⟩ := hx
  obtain ⟨rfl, rfl, rfl⟩ := hy
  obtain ⟨rfl, rfl, rfl⟩ := hz
  have p1 : ∀ (cs : Array Value) (off : Nat) (u : Value), cs[off]? = some u → (part 30 cs off).run Tryd.prog w = .ok u w := fun cs off u h => by
    simp only [part, Sem.run_bind, isAgg, run_underlying Tryd.underlying30, Result.andThen_ok, Sem.run_pure]
    simp [h]
  have p2 : ∀ (cs : Array Value) (off : Nat) (u : Value), cs[off]? = some u → (part 3 cs off).run Tryd.prog w = .ok u w := fun cs off u h => by
    simp only [part, Sem.run_bind, isAgg, run_underlying Tryd.underlying3, Result.andThen_ok, Sem.run_pure]
    simp [h]
  have p9 : ∀ (cs : Array Value) (off : Nat) (u : Value), cs[off]? = some u → (part 9 cs off).run Tryd.prog w = .ok u w := fun cs off u h => by
    simp only [part, Sem.run_bind, isAgg, run_underlying Tryd.underlying9, Result.andThen_ok, Sem.run_pure]
    simp [h]
  simp only [Op.eqFields, Sem.run_bind, Sem.run_ite]
  rw [if_pos (by decide), p1 _ 0 (.int .u8 k) rfl, Result.andThen_ok, p1 _ 0 (.int .u8 k') rfl, Result.andThen_ok, run_equalIn_int w 9998 30 .u8 .u8 _ _ Tryd.underlying30, Result.andThen_ok]
  cases (k == k')
  · rfl
  rw [if_neg (by decide), if_pos (by decide), p9 _ 1 (.string s) rfl, Result.andThen_ok, p9 _ 1 (.string s') rfl, Result.andThen_ok, run_equalIn_string w 9998 9 _ _ Tryd.underlying9, Result.andThen_ok]
  cases (s.toList == s'.toList)
  · rfl
  rw [if_neg (by decide), if_pos (by decide), p2 _ 2 (.int .i64 a) rfl, Result.andThen_ok, p2 _ 2 (.int .i64 a') rfl, Result.andThen_ok, run_equalIn_int w 9998 3 .i64 .i64 _ _ Tryd.underlying3, Result.andThen_ok]
  cases (a == a') <;> rfl
theorem neqT (w : World) (k a k' a' : Int) (s s' : ByteArray) : (binOp .neq 32 (.agg #[.int .u8 k, .string s, .int .i64 a]) (.agg #[.int .u8 k', .string s', .int .i64 a'])).run Tryd.prog w = .ok (.bool (!((k == k') && ((s.toList == s'.toList) && (a == a'))))) w := by
  rw [run_neq_struct, equalT, Result.andThen_ok]
theorem eqlT (w : World) (k a k' a' : Int) (s s' : ByteArray) : (binOp .eql 32 (.agg #[.int .u8 k, .string s, .int .i64 a]) (.agg #[.int .u8 k', .string s', .int .i64 a'])).run Tryd.prog w = .ok (.bool ((k == k') && ((s.toList == s'.toList) && (a == a')))) w := by
  rw [run_eql_struct, equalT, Result.andThen_ok]
theorem guardT (w : World) (op : BinOp) (x y : Operand) (xs ys : Array Value) : (eqGuard op 32 x y (.agg xs) (.agg ys)).run Tryd.prog w = .ok () w := run_eqGuard_agg w op _ x y xs ys eqGuardT
theorem equalF (w : World) (k a k' a' : Int) : (Op.equalIn 10000 25 (.agg #[.int .i64 k, .int .i64 a]) (.agg #[.int .i64 k', .int .i64 a'])).run Tryd.prog w = .ok ((k == k') && (a == a')) w := by
  rw [run_equalIn_agg w 9999 25 _ _ fieldsF stoodF]
  obtain ⟨x, y, hl, hx, hy⟩ := twain fieldsFL
  rw [hl]
  obtain ⟨xn, xt, xo⟩ := x
  obtain ⟨yn, yt, yo⟩ := y
  simp only [Prod.mk.injEq] at hx hy
  obtain ⟨rfl, rfl, rfl⟩ := hx
  obtain ⟨rfl, rfl, rfl⟩ := hy
  have p1 : ∀ (cs : Array Value) (off : Nat) (u : Value), cs[off]? = some u → (part 23 cs off).run Tryd.prog w = .ok u w := fun cs off u h => by
    simp only [part, Sem.run_bind, isAgg, run_underlying Tryd.underlying23, Result.andThen_ok, Sem.run_pure]
    simp [h]
  have p2 : ∀ (cs : Array Value) (off : Nat) (u : Value), cs[off]? = some u → (part 3 cs off).run Tryd.prog w = .ok u w := fun cs off u h => by
    simp only [part, Sem.run_bind, isAgg, run_underlying Tryd.underlying3, Result.andThen_ok, Sem.run_pure]
    simp [h]
  simp only [Op.eqFields, Sem.run_bind, Sem.run_ite]
  rw [if_pos (by decide), p1 _ 0 (.int .i64 k) rfl, Result.andThen_ok, p1 _ 0 (.int .i64 k') rfl, Result.andThen_ok, run_equalIn_int w 9998 23 .i64 .i64 _ _ Tryd.underlying23, Result.andThen_ok]
  cases (k == k')
  · rfl
  rw [if_neg (by decide), if_pos (by decide), p2 _ 1 (.int .i64 a) rfl, Result.andThen_ok, p2 _ 1 (.int .i64 a') rfl, Result.andThen_ok, run_equalIn_int w 9998 3 .i64 .i64 _ _ Tryd.underlying3, Result.andThen_ok]
  cases (a == a') <;> rfl
theorem neqF (w : World) (k a k' a' : Int) : (binOp .neq 25 (.agg #[.int .i64 k, .int .i64 a]) (.agg #[.int .i64 k', .int .i64 a'])).run Tryd.prog w = .ok (.bool (!((k == k') && (a == a')))) w := by
  rw [run_neq_struct, equalF, Result.andThen_ok]
theorem eqlF (w : World) (k a k' a' : Int) : (binOp .eql 25 (.agg #[.int .i64 k, .int .i64 a]) (.agg #[.int .i64 k', .int .i64 a'])).run Tryd.prog w = .ok (.bool ((k == k') && (a == a'))) w := by
  rw [run_eql_struct, equalF, Result.andThen_ok]
theorem guardF (w : World) (op : BinOp) (x y : Operand) (xs ys : Array Value) : (eqGuard op 25 x y (.agg xs) (.agg ys)).run Tryd.prog w = .ok () w := run_eqGuard_agg w op _ x y xs ys eqGuardF

theorem span_at (text : ByteArray) (x : Int) (at_ : Nat) (N : FuncId) (p : UInt8 → Bool) (w : World) (hx : x = (at_ : Int)) (hm : text.size ≤ 9223372036854775807) (hN : ∀ (x : Value) (w : World), (callFunc N #[x]).run Tryd.prog w = .ok (.enter N #[x]) w) (hp : ∀ (c : UInt8) (w : World), Calls Tryd.prog N #[.int .i32 (c.toNat : Int)] w fun e w' => e = .returned (.bool (p c)) ∧ w = w') (hat : at_ ≤ text.size) :
    Calls Tryd.prog 13 #[.string text, .int .i64 x, .func (.func N) #[] #[]] w fun e w' => e = .returned (.int .i64 ((at_ + Lex.span p (text.data.toList.drop at_) : Nat) : Int)) ∧ w = w' := by
  subst hx
  exact span_any text at_ N p w hm hN hp hat
set_option maxHeartbeats 800000 in
theorem word_any (s : ByteArray) (w : World) (hm : s.size ≤ maxLen) : Calls Tryd.prog 24 #[.string s] w fun e w' => e = .returned (.bool (Lex.word s.data.toList)) ∧ w = w' := by
  unfold maxLen at hm
  have HL := hide (str_len s)
  obtain ⟨b, hb⟩ : ∃ b, b = Lex.word s.data.toList := ⟨_, rfl⟩
  rw [← hb]
  unfold Lex.word at hb
  rw [HL.out] at hb
  have HB := hide hb
  clear hb
  by_cases h1 : 1 ≤ s.size
  · have t1 : decide ((1 : Int) ≤ (s.size : Int)) = true := by simp; omega
    by_cases h2 : s.size ≤ 24
    · have t2 : decide ((s.size : Int) ≤ 24) = true := by simp; omega
      obtain ⟨c, hc, hs⟩ := str_at (show 0 < s.size by omega)
      have hd : s.data.toList = c :: s.data.toList.drop 1 := by have := drop_at hc; simpa using this
      have hI : (0 : Int) < (s.size : Int) := by omega
      have hcl := c.toNat_lt
      have HB2 : Hid (b = (Lex.letter c && decide (Lex.span Lex.inWord s.data.toList = s.size))) := by
        show _ = _
        have e0 : (match s.data.toList with | [] => false | c :: _ => Lex.letter c) = Lex.letter c := by rw [hd]
        rw [HB.out, decide_eq_true h1, decide_eq_true h2, Bool.true_and, Bool.true_and, e0]
      clear HB hc hd
      go_enter Tryd.func24, Tryd.ntmps24
      go_wp2_with fail
      with_reducible refine (letter_any c _).mono ?_
      rintro e w' ⟨rfl, rfl⟩
      cases hlt : Lex.letter c with
      | false =>
        have HF : Hid (b = false) := HB2.out.trans (by rw [hlt]; rfl)
        clear hlt
        go_wp2_with fail
        go_ret
        exact ⟨by rw [HF.out]; rfl, rfl⟩
      | true =>
        have HF := hide (HB2.out.trans (by rw [hlt, Bool.true_and]))
        clear hlt
        go_wp2_with fail
        with_reducible refine (span_at s _ 0 19 Lex.inWord _ (by omega) (by omega) run_inWord inWord_any (by omega)).mono ?_
        rintro e w' ⟨rfl, rfl⟩
        rw [List.drop_zero, Nat.zero_add]
        obtain ⟨n, hn⟩ : ∃ n, n = Lex.span Lex.inWord s.data.toList := ⟨_, rfl⟩
        rw [← hn] at HF ⊢
        clear hn
        go_wp2_with fail
        go_ret
        exact ⟨by rw [HF.out]; exact ret_b (by rw [Bool.eq_iff_iff]; simp; omega), rfl⟩
    · have t2 : decide ((s.size : Int) ≤ 24) = false := by simp; omega
      have HF : Hid (b = false) := HB.out.trans (by rw [decide_eq_false h2]; simp)
      go_enter Tryd.func24, Tryd.ntmps24
      go_wp2_with fail
      go_ret
      exact ⟨by rw [HF.out]; rfl, rfl⟩
  · have t1 : decide ((1 : Int) ≤ (s.size : Int)) = false := by simp; omega
    have HF : Hid (b = false) := HB.out.trans (by rw [decide_eq_false h1]; rfl)
    go_enter Tryd.func24, Tryd.ntmps24
    go_wp2_with fail
    go_ret
    exact ⟨by rw [HF.out]; rfl, rfl⟩
theorem words_short : Lex.words.length < 4294967281 := by decide +kernel
theorem contains_lit (S T : ByteArray) (m : Int) (w : World) (hS : S.data.toList = Lex.words) (hM : w.cell? ⟨0, 0, none⟩ = some (.int .i64 m)) : Calls Tryd.prog 25 #[.string S, .string T] w fun e w' => e = .returned (.bool (Lib.contains Lex.words T.data.toList)) ∧ w = w' := by
  rw [← hS]
  exact (Tryd.strings_Contains S T m w (by rw [← str_len, hS]; exact words_short) hM).mono fun _ _ h => ⟨h.1, h.2.symm⟩
theorem blanks (s : ByteArray) : ((⟨#[32]⟩ : ByteArray) ++ s ++ ⟨#[32]⟩).data.toList = 32 :: (s.data.toList ++ [32]) := by
  simp [ByteArray.data_append]
set_option maxRecDepth 100000 in
set_option maxHeartbeats 800000 in
theorem reserved_any (s : ByteArray) (m : Int) (w : World) (hm : s.size ≤ maxLen) (hM : w.cell? ⟨0, 0, none⟩ = some (.int .i64 m)) : Calls Tryd.prog 11 #[.string s] w fun e w' => e = .returned (.bool (Lex.reserved s.data.toList)) ∧ w = w' := by
  have HM := hide hM
  have HS := hide hm
  obtain ⟨b, hb⟩ : ∃ b, b = Lex.reserved s.data.toList := ⟨_, rfl⟩
  rw [← hb]
  unfold Lex.reserved at hb
  have HB := hide hb
  clear hb hM hm
  go_enter Tryd.func11, Tryd.ntmps11
  go_wp2_with fail
  with_reducible refine (word_any s _ HS.out).mono ?_
  rintro e w' ⟨rfl, rfl⟩
  cases hw : Lex.word s.data.toList with
  | false =>
    have HF : Hid (b = false) := HB.out.trans (by rw [hw]; rfl)
    clear hw
    go_wp2_with fail
    go_ret
    exact ⟨by rw [HF.out]; rfl, rfl⟩
  | true =>
    have HF := hide (HB.out.trans (by rw [hw, Bool.true_and]))
    have h24 : s.size ≤ 24 := by
      unfold Lex.word at hw
      simp at hw
      have := str_len s
      omega
    clear hw
    go_wp2_with fail
    with_reducible refine (contains_lit _ _ m _ ?_ HM.out).mono ?_
    · kernel_rfl
    rintro e w' ⟨rfl, rfl⟩
    rw [blanks, ← HF.out]
    go_wp2_with fail
    go_ret
    exact ⟨rfl, rfl⟩
theorem name_any (s : ByteArray) (m : Int) (w : World) (hm : s.size ≤ maxLen) (hM : w.cell? ⟨0, 0, none⟩ = some (.int .i64 m)) : Calls Tryd.prog 10 #[.string s] w fun e w' => e = .returned (.bool (Lex.name s.data.toList)) ∧ w = w' := by
  have HM := hide hM
  have HS := hide hm
  obtain ⟨b, hb⟩ : ∃ b, b = Lex.name s.data.toList := ⟨_, rfl⟩
  rw [← hb]
  unfold Lex.name at hb
  have HB := hide hb
  clear hb hM hm
  go_enter Tryd.func10, Tryd.ntmps10
  go_wp2_with fail
  with_reducible refine (word_any s _ HS.out).mono ?_
  rintro e w' ⟨rfl, rfl⟩
  cases hw : Lex.word s.data.toList with
  | false =>
    have HF : Hid (b = false) := HB.out.trans (by rw [hw]; rfl)
    clear hw
    go_wp2_with fail
    go_ret
    exact ⟨by rw [HF.out]; rfl, rfl⟩
  | true =>
    have HF := hide (HB.out.trans (by rw [hw, Bool.true_and]))
    clear hw
    go_wp2_with fail
    with_reducible refine (reserved_any s m _ HS.out HM.out).mono ?_
    rintro e w' ⟨rfl, rfl⟩
    obtain ⟨r, hr⟩ : ∃ r, r = Lex.reserved s.data.toList := ⟨_, rfl⟩
    rw [← hr] at HF ⊢
    clear hr
    go_wp2_with fail
    go_ret
    exact ⟨by rw [HF.out]; rfl, rfl⟩
end Go.Proofs.YtfoolkjamadfdaaDoor
