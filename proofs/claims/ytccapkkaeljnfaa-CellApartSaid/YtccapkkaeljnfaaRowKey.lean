/-
  The walks of cell.with and chanceryref18.behind. Conditions: the bytes ahead are a row of the call's own, of at most 1000.
-/
import Derived.Test.YtccapkkaeljnfaaPlace
namespace Go.Proofs.Ytccapkkaeljnfaa
open Go.RowKit

/-- As BE, the row of blocks from base on. -/
def BEb (base : Nat) (w : World) (r : Nat × List UInt8) (e : Ending) (w' : World) : Prop :=
  ∃ v', e = .returned (.tuple #[v', .int .i64 (r.1 : Int)]) ∧ w'.ownsRow base 5 1 v' r.2.length (r.2.map B8) ∧ Below base w w'
theorem BEb.err {base : Nat} {w w' : World} {r : Nat × List UInt8} (n : Nat) (h : r = (n, [])) (hb : Below base w w') : BEb base w r (.returned (.tuple #[.slice none 0 0, .int .i64 (n : Int)])) w' := by
  subst h
  exact ⟨_, rfl, own_nil _ _ _ _, hb⟩
theorem BEb.ok {base : Nat} {w w' : World} {r : Nat × List UInt8} {A : Option Addr} {m c : Nat} {l : List UInt8} (h : r = (0, l)) (hm : m = l.length) (ho : w'.ownsRow base 5 1 (.slice A m c) m (l.map B8)) (hb : Below base w w') : BEb base w r (.returned (.tuple #[.slice A m c, .int .i64 0])) w' := by
  subst h hm
  exact ⟨_, rfl, ho, hb⟩
theorem BE.form {w w' : World} {r : Nat × List UInt8} {e : Ending} (h : BE w r e w') : ∃ A c, e = .returned (.tuple #[.slice A r.2.length c, .int .i64 (r.1 : Int)]) ∧ w'.ownsRow w.heap.size 5 1 (.slice A r.2.length c) r.2.length (r.2.map B8) ∧ Below w.heap.size w w' := by
  obtain ⟨v', rfl, h1, h2⟩ := h
  obtain ⟨A, c, rfl⟩ := own_sl h1
  exact ⟨A, c, rfl, h1, h2⟩
theorem BEb.form {base : Nat} {w w' : World} {r : Nat × List UInt8} {e : Ending} (h : BEb base w r e w') : ∃ A c, e = .returned (.tuple #[.slice A r.2.length c, .int .i64 (r.1 : Int)]) ∧ w'.ownsRow base 5 1 (.slice A r.2.length c) r.2.length (r.2.map B8) ∧ Below base w w' := by
  obtain ⟨v', rfl, h1, h2⟩ := h
  obtain ⟨A, c, rfl⟩ := own_sl h1
  exact ⟨A, c, rfl, h1, h2⟩

set_option maxHeartbeats 800000 in
theorem with_any (base : Nat) (A : Option Addr) (m c : Nat) (p : Nat × List UInt8) (k : UInt8) (n : Int) (s : ByteArray) (w : World) (hm : m = p.2.length) (hp : w.ownsRow base 5 1 (.slice A m c) m (p.2.map B8)) (hpl : m ≤ 1000) (hbase : base ≤ w.heap.size) :
    Calls Try.prog 43 #[.slice A m c, .int .i64 (p.1 : Int), .agg #[.int .u8 (k.toNat : Int), .int .i64 n, .string s]] w (BEb base w (Cell.joinKey p ⟨k, n, s⟩)) := by
  have HM := hide hm
  have HO := hide hp
  clear hm hp
  obtain ⟨p1, p2⟩ := p
  by_cases h0 : p1 = 0
  · subst h0
    have Hk := hide (Cell.key_len ⟨k, n, s⟩)
    obtain ⟨q, hq⟩ : ∃ q, q = Cell.key ⟨k, n, s⟩ := ⟨_, rfl⟩
    go_enter Try.func43, Try.ntmps43
    go_wp2_with fail
    refine (key_any k n s _).mono ?_
    intro e w1 hpost
    obtain ⟨A1, c1, rfl, hown1, hb1⟩ := hpost.form
    have HO1 := hide (Rb.own hown1)
    have HB1 := hide (((Below.refl base w).alloc hbase _).trans (hb1.mono (by simp; omega)))
    have HO0 := hide (own_below (HO.out.alloc _) hb1)
    have hz1 := HB1.out.size
    clear hown1 hb1 hpost
    rw [← hq] at HO1 Hk ⊢
    obtain ⟨q1, q2⟩ := q
    have HQ := hide hq
    clear hq
    by_cases hq0 : q1 = 0
    · subst hq0
      have HP := hide (Cell.joinKey_ok (p := (0, p2)) (v := ⟨k, n, s⟩) rfl (by rw [← HQ.out]))
      rw [← HQ.out] at HP
      have hq75 : q2.length ≤ 75 := Hk.out
      go_wp2_with (at_builtin; refine wpList_app _ bt rfl (.tmp 20) (.tmp 21) rfl base _ m p2 rfl HO0.out _ A1 q2.length c1 q2 rfl HO1.out (by omega) (by omega) ?_; intro v4 w4 hown4 hb4 _; have HO4 := hide hown4; have HB4 := hide (HB1.out.trans hb4); clear hown4 hb4; obtain ⟨A4, c4, rfl⟩ := own_sl HO4.out)
      go_ret2
      exact BEb.ok HP.out (by rw [HM.out, List.length_append]) HO4.out HB4.out
    · have HP := hide (Cell.joinKey_key (p := (0, p2)) (v := ⟨k, n, s⟩) rfl (by rw [← HQ.out]; exact hq0))
      rw [← HQ.out] at HP
      have t1 : ((q1 : Int) != 0) = true := by simp; exact hq0
      clear hq0
      go_wp2_with fail
      go_ret2
      exact BEb.err q1 HP.out HB1.out
  · have HP := hide (Cell.joinKey_no (p := (p1, p2)) (v := ⟨k, n, s⟩) h0)
    have t1 : ((p1 : Int) != 0) = true := by simp; exact h0
    clear h0
    go_enter Try.func43, Try.ntmps43
    go_wp2_with fail
    go_ret2
    exact BEb.err p1 HP.out ((Below.refl _ _).alloc hbase _)

set_option maxHeartbeats 800000 in
theorem behind_any (base : Nat) (A : Option Addr) (m c : Nat) (p2 : List UInt8) (k : UInt8) (n : Int) (s : ByteArray) (w : World) (hm : m = p2.length) (hp : w.ownsRow base 5 1 (.slice A m c) m (p2.map B8)) (hpl : m ≤ 1000) (hbase : base ≤ w.heap.size) :
    Calls Try.prog 45 #[.slice A m c, .agg #[.int .u8 (k.toNat : Int), .int .i64 n, .string s]] w (BEb base w (Cell.joinKey (0, p2) ⟨k, n, s⟩)) := by
  have HM := hide hm
  have HO := hide hp
  clear hm hp
  have Hk := hide (Cell.key_len ⟨k, n, s⟩)
  obtain ⟨q, hq⟩ : ∃ q, q = Cell.key ⟨k, n, s⟩ := ⟨_, rfl⟩
  go_enter Try.func45, Try.ntmps45
  go_wp2_with fail
  refine (refKey_any k n s _).mono ?_
  intro e w1 hpost
  obtain ⟨A1, c1, rfl, hown1, hb1⟩ := hpost.form
  have HO1 := hide (Rb.own hown1)
  have HB1 := hide (((Below.refl base w).alloc hbase _).trans (hb1.mono (by simp; omega)))
  have HO0 := hide (own_below (HO.out.alloc _) hb1)
  have hz1 := HB1.out.size
  clear hown1 hb1 hpost
  rw [← hq] at HO1 Hk ⊢
  obtain ⟨q1, q2⟩ := q
  have HQ := hide hq
  clear hq
  by_cases hq0 : q1 = 0
  · subst hq0
    have HP := hide (Cell.joinKey_ok (p := (0, p2)) (v := ⟨k, n, s⟩) rfl (by rw [← HQ.out]))
    rw [← HQ.out] at HP
    have hq75 : q2.length ≤ 75 := Hk.out
    go_wp2_with (at_builtin; refine wpList_app _ bt rfl (.tmp 16) (.tmp 17) rfl base _ m p2 rfl HO0.out _ A1 q2.length c1 q2 rfl HO1.out (by omega) (by omega) ?_; intro v4 w4 hown4 hb4 _; have HO4 := hide hown4; have HB4 := hide (HB1.out.trans hb4); clear hown4 hb4; obtain ⟨A4, c4, rfl⟩ := own_sl HO4.out)
    go_ret2
    exact BEb.ok HP.out (by rw [HM.out, List.length_append]) HO4.out HB4.out
  · have HP := hide (Cell.joinKey_key (p := (0, p2)) (v := ⟨k, n, s⟩) rfl (by rw [← HQ.out]; exact hq0))
    rw [← HQ.out] at HP
    have t1 : ((q1 : Int) != 0) = true := by simp; exact hq0
    clear hq0
    go_wp2_with fail
    go_ret2
    exact BEb.err q1 HP.out HB1.out
end Go.Proofs.Ytccapkkaeljnfaa
