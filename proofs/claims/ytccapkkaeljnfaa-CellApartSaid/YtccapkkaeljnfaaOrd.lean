/-
  The walks of bytes.Compare, bytes.Equal, bytes.HasPrefix, strings.Compare, cmp.Compare, cmp.Or and value.Order. Conditions: slices read as lists of bytes.
-/
import Derived.Test.YtccapkkaeljnfaaNext
import Derived.Test.YtccapkkaeljnfaaVerMath
import Derived.Lib.Bytealg
import Derived.Laws.Externs
import Derived.StillTailTactics
namespace Go.Proofs.Ytccapkkaeljnfaa
open Go.RowKit

theorem cmpB_eq : ∀ l m, Lib.compareBytes l m = cmpB l m := by
  intro l
  induction l with
  | nil => intro m; cases m <;> rfl
  | cons c l ih => intro m; cases m with
    | nil => rfl
    | cons d m => simp only [Lib.compareBytes, cmpB, ih]

theorem run_loadBytes {P : Program} {w : World} (b : Nat) : ∀ (l : List UInt8) (off : Nat) (acc : ByteArray), (∀ j c, l[j]? = some c → w.cell? ⟨b, off + j, none⟩ = some (.int .u8 (c.toNat : Int))) →
    (Extern.Bytes.loadBytes ⟨b, off, none⟩ l.length acc).run P w = .ok ⟨acc.data ++ l.toArray⟩ w := by
  intro l
  induction l with
  | nil => intro off acc _; simp [Extern.Bytes.loadBytes, Sem.run_pure]
  | cons c l ih =>
    intro off acc h
    have h0 := h 0 c rfl
    rw [Nat.add_zero] at h0
    have hr := ih (off + 1) (acc.push c) (fun j d hj => by
      have := h (j + 1) d (by simpa using hj)
      rwa [show off + (j + 1) = off + 1 + j by omega] at this)
    simp only [List.length_cons, Extern.Bytes.loadBytes, Sem.run_bind]
    have hl : (load (⟨b, off, none⟩ : Addr)).run P w = .ok (.int .u8 (c.toNat : Int)) w := by simp [go_sem, h0]
    rw [hl]
    simp only [Result.andThen]
    rw [addr_add, show ((c.toNat : Int)).toNat.toUInt8 = c by simp, hr]
    simp [ByteArray.push]

theorem Rb.run_bytesOf {P : Program} {w : World} {B : Nat} {A : Option Addr} {n : Nat} {l : List UInt8} (h : Rb w B A n l) (c : Nat) : (Extern.Bytes.bytesOf (.slice A n c)).run P w = .ok ⟨l.toArray⟩ w := by
  rcases Nat.eq_zero_or_pos n with h0 | h0
  · subst h0
    have hl : l = [] := List.eq_nil_of_length_eq_zero h.len
    subst hl
    cases A with
    | none => rfl
    | some a => rfl
  · obtain ⟨b, off, rfl, _, hc⟩ := h.all h0
    have := run_loadBytes (P := P) b l off .empty hc
    rw [h.len] at this
    simp only [Extern.Bytes.bytesOf]
    rw [this]
    simp [ByteArray.empty, ByteArray.emptyWithCapacity]
    rfl

theorem run_compare {w : World} {B B' : Nat} {A A' : Option Addr} {n n' : Nat} {l l' : List UInt8} (h : Rb w B A n l) (h' : Rb w B' A' n' l') (c c' : Nat) :
    (callFunc 48 #[.slice A n c, .slice A' n' c']).run Try.prog w = .ok (.value (.int .i64 (cmpB l l'))) w := by
  rw [run_callFunc_extern Try.func48 (by kernel_rfl) (by kernel_rfl) (by kernel_rfl) (e := Extern.BytealgCompare.compare) (by kernel_rfl)]
  have : (Extern.BytealgCompare.compare #[.slice A n c, .slice A' n' c']).run Try.prog w = .ok (.int .i64 (cmpB l l')) w := by
    change Sem.run Try.prog (do pure (goInt (Extern.BytealgCompare.cmp (← Extern.Bytes.bytesOf (.slice A n c)) (← Extern.Bytes.bytesOf (.slice A' n' c'))))) w = _
    simp only [Sem.run_bind, h.run_bytesOf, h'.run_bytesOf, Result.andThen, Sem.run_pure, Lib.cmp_eq, cmpB_eq]
    rfl
  rw [this]
  rfl
theorem run_cmpstring (s t : ByteArray) (w : World) :
    (callFunc 57 #[.string s, .string t]).run Try.prog w = .ok (.value (.int .i64 (cmpB s.data.toList t.data.toList))) w := by
  rw [run_callFunc_extern Try.func57 (by kernel_rfl) (by kernel_rfl) (by kernel_rfl) (e := Extern.BytealgCompare.compare) (by kernel_rfl)]
  rw [Lib.run_compareString, cmpB_eq]
  rfl

theorem bcompare_any (A A' : Option Addr) (n c n' c' : Nat) (l l' : List UInt8) (w : World) (B B' : Nat) (hl : Rb w B A n l) (hl' : Rb w B' A' n' l') :
    Calls Try.prog 32 #[.slice A n c, .slice A' n' c'] w fun e w' => e = .returned (.int .i64 (cmpB l l')) ∧ w = w' := by
  have hr := run_compare hl hl' c c'
  clear hl hl'
  go_enter Try.func32, Try.ntmps32
  go_wp2
  go_ret
  exact ⟨rfl, rfl⟩
theorem scompare_any (s t : ByteArray) (w : World) :
    Calls Try.prog 52 #[.string s, .string t] w fun e w' => e = .returned (.int .i64 (cmpB s.data.toList t.data.toList)) ∧ w' = w := by
  have hr := run_cmpstring s t
  go_enter Try.func52, Try.ntmps52
  go_wp2_with fail
  refine (show Calls Try.prog 56 #[.string s, .string t] w fun e w' => e = .returned (.int .i64 (cmpB s.data.toList t.data.toList)) ∧ w = w' from ?_).mono ?_
  · go_enter Try.func56, Try.ntmps56
    go_wp2
    go_ret
    exact ⟨rfl, rfl⟩
  rintro e w' ⟨rfl, rfl⟩
  go_wp2_with fail
  go_ret
  exact ⟨rfl, rfl⟩
/-- Two numbers in order. -/
def cmpI (a b : Int) : Int := if a < b then -1 else if b < a then 1 else 0
theorem cmpI_lt {a b : Int} (h : a < b) : cmpI a b = -1 := by unfold cmpI; rw [if_pos h]
theorem cmpI_gt {a b : Int} (h : b < a) : cmpI a b = 1 := by unfold cmpI; rw [if_neg (by omega), if_pos h]
theorem cmpI_eq (a : Int) : cmpI a a = 0 := by unfold cmpI; rw [if_neg (by omega), if_neg (by omega)]
theorem nanK (a : Int) (w : World) : Calls Try.prog 54 #[.int .u8 a] w fun e w' => e = .returned (.bool false) ∧ w = w' := by
  have h : (a != a) = false := by simp
  go_enter Try.func54, Try.ntmps54
  go_wp2
  go_ret
  exact ⟨rfl, rfl⟩
theorem nanI (a : Int) (w : World) : Calls Try.prog 55 #[.int .i64 a] w fun e w' => e = .returned (.bool false) ∧ w = w' := by
  have h : (a != a) = false := by simp
  go_enter Try.func55, Try.ntmps55
  go_wp2
  go_ret
  exact ⟨rfl, rfl⟩
theorem ccompareK (a b : Int) (w : World) : Calls Try.prog 50 #[.int .u8 a, .int .u8 b] w fun e w' => e = .returned (.int .i64 (cmpI a b)) ∧ w' = w := by
  rcases Int.lt_trichotomy a b with h | h | h
  · have e := hide (cmpI_lt h)
    go_enter Try.func50, Try.ntmps50
    go_wp2_with (first | (with_reducible refine (nanK a _).mono ?_; rintro e w' ⟨rfl, rfl⟩) | (with_reducible refine (nanK b _).mono ?_; rintro e w' ⟨rfl, rfl⟩))
    go_ret
    exact ⟨by rw [e.out]; rfl, rfl⟩
  · subst h
    have e := hide (cmpI_eq a)
    have h : ¬ a < a := by omega
    go_enter Try.func50, Try.ntmps50
    go_wp2_with (with_reducible refine (nanK a _).mono ?_; rintro e w' ⟨rfl, rfl⟩)
    go_ret
    exact ⟨by rw [e.out]; rfl, rfl⟩
  · have e := hide (cmpI_gt h)
    have h' : ¬ a < b := by omega
    go_enter Try.func50, Try.ntmps50
    go_wp2_with (first | (with_reducible refine (nanK a _).mono ?_; rintro e w' ⟨rfl, rfl⟩) | (with_reducible refine (nanK b _).mono ?_; rintro e w' ⟨rfl, rfl⟩))
    go_ret
    exact ⟨by rw [e.out]; rfl, rfl⟩
theorem ccompareI (a b : Int) (w : World) : Calls Try.prog 51 #[.int .i64 a, .int .i64 b] w fun e w' => e = .returned (.int .i64 (cmpI a b)) ∧ w' = w := by
  rcases Int.lt_trichotomy a b with h | h | h
  · have e := hide (cmpI_lt h)
    go_enter Try.func51, Try.ntmps51
    go_wp2_with (first | (with_reducible refine (nanI a _).mono ?_; rintro e w' ⟨rfl, rfl⟩) | (with_reducible refine (nanI b _).mono ?_; rintro e w' ⟨rfl, rfl⟩))
    go_ret
    exact ⟨by rw [e.out]; rfl, rfl⟩
  · subst h
    have e := hide (cmpI_eq a)
    have h : ¬ a < a := by omega
    go_enter Try.func51, Try.ntmps51
    go_wp2_with (with_reducible refine (nanI a _).mono ?_; rintro e w' ⟨rfl, rfl⟩)
    go_ret
    exact ⟨by rw [e.out]; rfl, rfl⟩
  · have e := hide (cmpI_gt h)
    have h' : ¬ a < b := by omega
    go_enter Try.func51, Try.ntmps51
    go_wp2_with (first | (with_reducible refine (nanI a _).mono ?_; rintro e w' ⟨rfl, rfl⟩) | (with_reducible refine (nanI b _).mono ?_; rintro e w' ⟨rfl, rfl⟩))
    go_ret
    exact ⟨by rw [e.out]; rfl, rfl⟩

/-- The first that is not 0. -/
def or3 (a b c : Int) : Int := if a ≠ 0 then a else if b ≠ 0 then b else c
def OrTo (a b c : Int) (k : Nat) : Prop := k = 0 ∨ (k = 1 ∧ a = 0) ∨ (k = 2 ∧ a = 0 ∧ b = 0) ∨ (k = 3 ∧ a = 0 ∧ b = 0 ∧ c = 0)
set_option maxHeartbeats 400000 in
theorem or_any (g : Nat) (a b c : Int) (w : World) (h0 : w.cell? ⟨g, 0, none⟩ = some (.int .i64 a)) (h1 : w.cell? ⟨g, 1, none⟩ = some (.int .i64 b)) (h2 : w.cell? ⟨g, 2, none⟩ = some (.int .i64 c)) :
    Calls Try.prog 49 #[.slice (some ⟨g, 0, none⟩) 3 3] w fun e w' => e = .returned (.int .i64 (or3 a b c)) ∧ w = w' := by
  go_enter Try.func49, Try.ntmps49
  go_wp2_with fail
  go_loop [8] (fun i => ∃ k : Nat, i = .int .i64 (k : Nat) ∧ OrTo a b c k) (fun i => 3 - (intOf i).toNat)
  case atStart => exact ⟨0, rfl, Or.inl rfl⟩
  case round =>
    obtain ⟨k, rfl, hr⟩ := hrel
    rcases hr with rfl | ⟨rfl, rfl⟩ | ⟨rfl, rfl, rfl⟩ | ⟨rfl, rfl, rfl, rfl⟩
    · by_cases ha : a = 0
      · subst ha
        go_wp2_with fail
        exact ⟨⟨1, rfl, Or.inr (Or.inl ⟨rfl, rfl⟩)⟩, by simp [intOf]⟩
      · have HF : Hid (or3 a b c = a) := by show _ = _; unfold or3; rw [if_pos ha]
        have t : (a != 0) = true := by simpa using ha
        go_wp2_with fail
        go_ret
        exact ⟨by rw [HF.out]; rfl, rfl⟩
    · by_cases hb : b = 0
      · subst hb
        go_wp2_with fail
        exact ⟨⟨2, rfl, Or.inr (Or.inr (Or.inl ⟨rfl, rfl, rfl⟩))⟩, by simp [intOf]⟩
      · have HF : Hid (or3 0 b c = b) := by show _ = _; unfold or3; rw [if_neg (by omega), if_pos hb]
        have t : (b != 0) = true := by simpa using hb
        go_wp2_with fail
        go_ret
        exact ⟨by rw [HF.out]; rfl, rfl⟩
    · by_cases hc : c = 0
      · subst hc
        go_wp2_with fail
        exact ⟨⟨3, rfl, Or.inr (Or.inr (Or.inr ⟨rfl, rfl, rfl, rfl⟩))⟩, by simp [intOf]⟩
      · have HF : Hid (or3 0 0 c = c) := by show _ = _; unfold or3; rw [if_neg (by omega), if_neg (by omega)]
        have t : (c != 0) = true := by simpa using hc
        go_wp2_with fail
        go_ret
        exact ⟨by rw [HF.out]; rfl, rfl⟩
    · have HF : Hid (or3 0 0 0 = 0) := rfl
      go_wp2_with fail
      go_ret
      exact ⟨by rw [HF.out]; rfl, rfl⟩

/-- The order of values. -/
def ordV (a b : Cell.Val) : Int := or3 (cmpI a.k.toNat b.k.toNat) (cmpI a.n b.n) (cmpB a.s.data.toList b.s.data.toList)
set_option maxHeartbeats 800000 in
theorem order_any (k : UInt8) (n : Int) (s : ByteArray) (k' : UInt8) (n' : Int) (s' : ByteArray) (w : World) :
    Calls Try.prog 33 #[.agg #[.int .u8 (k.toNat : Int), .int .i64 n, .string s], .agg #[.int .u8 (k'.toNat : Int), .int .i64 n', .string s']] w fun e w' => e = .returned (.int .i64 (ordV ⟨k, n, s⟩ ⟨k', n', s'⟩)) ∧ Below w.heap.size w w' := by
  obtain ⟨r, hr⟩ : ∃ r, r = ordV ⟨k, n, s⟩ ⟨k', n', s'⟩ := ⟨_, rfl⟩
  have HR := hide hr
  rw [← hr]
  clear hr
  go_enter Try.func33, Try.ntmps33
  go_wp2_with fail
  obtain ⟨w0, hw0⟩ : ∃ w0, w0 = (w.alloc (.cells #[.int .u8 (k.toNat : Int), .int .i64 n, .string s] 36)).alloc (.cells #[.int .u8 (k'.toNat : Int), .int .i64 n', .string s'] 36) := ⟨_, rfl⟩
  rw [← hw0]
  have HP0 : Blk w0 w.heap.size 36 #[.int .u8 (k.toNat : Int), .int .i64 n, .string s] := by rw [hw0]; exact (Blk.new w _ _).alloc _
  have HV0 : Blk w0 (w.heap.size + 1) 36 #[.int .u8 (k'.toNat : Int), .int .i64 n', .string s'] := by
    rw [hw0]
    have := Blk.new (w.alloc (.cells #[.int .u8 (k.toNat : Int), .int .i64 n, .string s] 36)) 36 #[.int .u8 (k'.toNat : Int), .int .i64 n', .string s']
    simpa using this
  have HB0 : Hid (Below w.heap.size w w0) := by rw [hw0]; exact ((Below.refl _ _).alloc (Nat.le_refl _) _).alloc (by simp) _
  have hz0 : w.heap.size + 2 = w0.heap.size := by rw [hw0]; simp
  clear hw0
  refine wp_region_still_tail 15 (by kernel_rfl) (by kernel_rfl) ?_
  obtain ⟨w1, hw1⟩ : ∃ x : World, x = { w0 with drawn := w0.drawn + 1 } := ⟨_, rfl⟩
  rw [← hw1]
  have d0 : w1.cell? ⟨w.heap.size, 0, none⟩ = some (.int .u8 (k.toNat : Int)) := by rw [hw1]; exact HP0.cell 0
  have d1 : w1.cell? ⟨w.heap.size, 1, none⟩ = some (.int .i64 n) := by rw [hw1]; exact HP0.cell 1
  have d2 : w1.cell? ⟨w.heap.size, 2, none⟩ = some (.string s) := by rw [hw1]; exact HP0.cell 2
  have g0 : w1.cell? ⟨w.heap.size + 1, 0, none⟩ = some (.int .u8 (k'.toNat : Int)) := by rw [hw1]; exact HV0.cell 0
  have g1 : w1.cell? ⟨w.heap.size + 1, 1, none⟩ = some (.int .i64 n') := by rw [hw1]; exact HV0.cell 1
  have g2 : w1.cell? ⟨w.heap.size + 1, 2, none⟩ = some (.string s') := by rw [hw1]; exact HV0.cell 2
  have HB1 : Hid (Below w.heap.size w w1) := by rw [hw1]; exact HB0.out.drew
  have hz1 : w.heap.size ≤ w1.heap.size := by rw [hw1]; show _ ≤ w0.heap.size; omega
  clear hw1 HP0 HV0 HB0 hz0
  simp only [List.take_succ_cons, List.take_zero, List.drop_succ_cons, List.drop_zero]
  iterate 4 still_step
  still_call (ccompareK _ _ _)
  iterate 4 still_step
  still_call (ccompareI _ _ _)
  iterate 4 still_step
  still_call (scompare_any _ _ _)
  refine wpStill_nil ?_
  go_wp2_with fail
  have HK := hide (Blk.new w1 3 #[.int .i64 (cmpI (k.toNat : Int) (k'.toNat : Int)), .int .i64 (cmpI n n'), .int .i64 (cmpB s.data.toList s'.data.toList)])
  with_reducible refine (or_any w1.heap.size (cmpI (k.toNat : Int) (k'.toNat : Int)) (cmpI n n') (cmpB s.data.toList s'.data.toList) _ (HK.out.cell 0) (HK.out.cell 1) (HK.out.cell 2)).mono ?_
  rintro e w2 ⟨rfl, rfl⟩
  go_wp2_with fail
  go_ret
  exact ⟨by rw [HR.out]; rfl, HB1.out.alloc hz1 _⟩

theorem bequal_any (A A' : Option Addr) (n c n' c' : Nat) (l l' : List UInt8) (w : World) (B B' : Nat) (hl : Rb w B A n l) (hl' : Rb w B' A' n' l') :
    Calls Try.prog 47 #[.slice A n c, .slice A' n' c'] w fun e w' => e = .returned (.bool (l == l')) ∧ w = w' := by
  have e1 := hl.run_string (P := Try.prog) 24 5 9 c Try.underlying24 Try.underlying5 Try.underlying9
  have e2 := hl'.run_string (P := Try.prog) 24 5 9 c' Try.underlying24 Try.underlying5 Try.underlying9
  obtain ⟨s1, hs1⟩ : ∃ s : ByteArray, s = ⟨l.toArray⟩ := ⟨_, rfl⟩
  obtain ⟨s2, hs2⟩ : ∃ s : ByteArray, s = ⟨l'.toArray⟩ := ⟨_, rfl⟩
  rw [← hs1] at e1
  rw [← hs2] at e2
  have HF : Hid ((s1.toList == s2.toList) = (l == l')) := by show _ = _; rw [hs1, hs2, ByteArray.toList_eq, ByteArray.toList_eq]
  clear hs1 hs2 hl hl'
  go_enter Try.func47, Try.ntmps47
  go_wp2_with fail
  go_ret
  exact ⟨by rw [← HF.out]; rfl, rfl⟩
theorem prefix_eq (l l' : List UInt8) : (l.take l'.length == l') = l'.isPrefixOf l := by
  rw [Bool.eq_iff_iff, beq_iff_eq, List.isPrefixOf_iff_prefix, List.prefix_iff_eq_take]
  exact ⟨fun h => h.symm, fun h => h.symm⟩
set_option maxHeartbeats 400000 in
theorem hasPrefix_any (A A' : Option Addr) (n c n' c' : Nat) (l l' : List UInt8) (w : World) (B B' : Nat) (hl : Rb w B A n l) (hl' : Rb w B' A' n' l') (hnc : n ≤ c) :
    Calls Try.prog 31 #[.slice A n c, .slice A' n' c'] w fun e w' => e = .returned (.bool (l'.isPrefixOf l)) ∧ w = w' := by
  have hln := hl.len
  have hln' := hl'.len
  have HL := hide hl
  have HL' := hide hl'
  by_cases h : n' ≤ n
  · have HF : Hid ((l.take n' == l') = l'.isPrefixOf l) := by show _ = _; rw [← prefix_eq l l', hln']
    have t1 : decide (n' ≤ n) = true := by simpa using h
    have t2 : (n' : Int) ≤ (c : Int) := by omega
    clear hl hl' hln hln'
    go_enter Try.func31, Try.ntmps31
    go_wp2_with fail
    with_reducible refine (bequal_any _ _ _ _ _ _ (l.take n') l' _ _ _ (HL.out.take h) HL'.out).mono ?_
    rintro e w1 ⟨rfl, rfl⟩
    go_wp2_with fail
    go_ret
    exact ⟨by rw [← HF.out]; rfl, rfl⟩
  · have HF : Hid (l'.isPrefixOf l = false) := by
      show _ = _
      rw [Bool.eq_false_iff]
      intro hp
      have := (List.isPrefixOf_iff_prefix.1 hp).length_le
      omega
    have t1 : decide (n' ≤ n) = false := by simpa using h
    clear hl hl' hln hln'
    go_enter Try.func31, Try.ntmps31
    go_wp2_with fail
    go_ret
    exact ⟨by rw [HF.out]; rfl, rfl⟩
end Go.Proofs.Ytccapkkaeljnfaa
