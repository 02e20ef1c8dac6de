/-
  How facts on memory are carried over a call that only draws. Conditions: none.
-/
import Derived.Test.YtnieenlnpnaamaaSame
namespace Go.Proofs.Ytnieenlnpnaamaa
open Go.RowKit
theorem Rb.drewE {w w' : World} {q : Nat} {A : Option Addr} {n B : Nat} {l : List UInt8} (h : Rb w B A n l) (e : w' = w.drewN q) : Rb w' B A n l := by rw [e]; exact h.drewN q
theorem Rv.drewE {w w' : World} {q : Nat} {A : Option Addr} {n B : Nat} {r : List Cell.Val} (h : Rv w B A n r) (e : w' = w.drewN q) : Rv w' B A n r := by rw [e]; exact h.keep fun _ _ => rfl
theorem Blk.drewE {w w' : World} {q : Nat} {g : Nat} {t : TypeId} {cs : Array Value} (h : Blk w g t cs) (e : w' = w.drewN q) : Blk w' g t cs := by rw [e]; exact h
theorem Below.drewE {B : Nat} {a w w' : World} {q : Nat} (h : Below B a w) (e : w' = w.drewN q) : Below B a w' := by rw [e]; exact below_drewN h q
theorem RE.some {w w' : World} {o : Option (List Cell.Val)} {e : Ending} {vs : List Cell.Val} (h : RE w o e w') (ho : o = .some vs) : ∃ A c, e = .returned (.tuple #[.slice A vs.length c, .int .i64 0]) ∧ w'.ownsRow w.heap.size 83 3 (.slice A vs.length c) vs.length (vcells vs) ∧ Below w.heap.size w w' ∧ ∀ v ∈ vs, v.s.size ≤ maxLen ∧ -9223372036854775808 ≤ v.n ∧ v.n ≤ 9223372036854775807 := by
  subst ho
  obtain ⟨v', en, rfl, rfl, hown, hb, hr⟩ := h
  obtain ⟨A, c, rfl⟩ := own_sl hown
  exact ⟨A, c, rfl, hown, hb, hr⟩
theorem RE.none {w w' : World} {o : Option (List Cell.Val)} {e : Ending} (h : RE w o e w') (ho : o = .none) : ∃ A c, e = .returned (.tuple #[.slice A 0 c, .int .i64 280]) ∧ Below w.heap.size w w' := by
  subst ho
  obtain ⟨v', en, rfl, rfl, hown, hb, hr⟩ := h
  obtain ⟨A, c, rfl⟩ := own_sl hown
  exact ⟨A, c, rfl, hb⟩
theorem BE.is {w w' : World} {r : Nat × List UInt8} {e : Ending} {n : Nat} {l : List UInt8} (h : BE w r e w') (hr : r = (n, l)) : ∃ A c, e = .returned (.tuple #[.slice A l.length c, .int .i64 (n : Int)]) ∧ w'.ownsRow w.heap.size 5 1 (.slice A l.length c) l.length (l.map B8) ∧ Below w.heap.size w w' ∧ l.length ≤ c ∧ c ≤ maxLen := by
  subst hr
  obtain ⟨v', rfl, hown, hb⟩ := h
  obtain ⟨A, c, rfl, _, h1, h2⟩ := own_form hown
  exact ⟨A, c, rfl, hown, hb, h1, h2⟩
theorem BE.ok0 {w w' : World} {r : Nat × List UInt8} {e : Ending} {l : List UInt8} (h : BE w r e w') (hr : r = (0, l)) : ∃ A c, e = .returned (.tuple #[.slice A l.length c, .int .i64 0]) ∧ w'.ownsRow w.heap.size 5 1 (.slice A l.length c) l.length (l.map B8) ∧ Below w.heap.size w w' ∧ l.length ≤ c ∧ c ≤ maxLen := h.is hr
/-- A row of the call's own, under a name that is carried over calls. -/
def Own (w : World) (base : Nat) (e : TypeId) (size : Nat) (v : Value) (n : Nat) (xs : List Value) : Prop := w.ownsRow base e size v n xs
section
variable {w w' : World} {base size n : Nat} {e : TypeId} {v : Value} {xs : List Value}
theorem Own.row (h : Own w base e size v n xs) : w.ownsRow base e size v n xs := h
theorem Own.below {C : Nat} (h : Own w base e size v n xs) (hb : Below C w w') (hC : w.heap.size ≤ C) : Own w' base e size v n xs := own_below h (hb.mono hC)
theorem Own.drewE {q : Nat} (h : Own w base e size v n xs) (he : w' = w.drewN q) : Own w' base e size v n xs := by rw [he]; exact own_agree h fun _ _ => rfl
theorem own_far_ne {base' size' n' : Nat} {e' : TypeId} {v' : Value} {xs' : List Value} {g : Nat} (h : w.ownsRow base e size v n xs) (h' : w.ownsRow base' e' size' v' n' xs') (hg : v'.ownBlock = some g) (hne : e ≠ e') : v.ownBlock ≠ some g := by
  rcases h'.2 with ⟨rfl, _⟩ | ⟨g', cap, cur, rfl, _, hh, _⟩
  · simp [Value.ownBlock] at hg
  · have : g' = g := by simpa [Value.ownBlock] using hg
    subst this
    exact own_blk_ne (t := e') (cs := cur) h hh hne
end
theorem RE.any {w w' : World} {o : Option (List Cell.Val)} {e : Ending} {vs : List Cell.Val} {en : Int} (h : RE w o e w') (h1 : vs = o.getD []) (h2 : en = (if o.isSome then 0 else 280)) : ∃ A c, e = .returned (.tuple #[.slice A vs.length c, .int .i64 en]) ∧ w'.ownsRow w.heap.size 83 3 (.slice A vs.length c) vs.length (vcells vs) ∧ Below w.heap.size w w' ∧ ∀ v ∈ vs, v.s.size ≤ maxLen ∧ -9223372036854775808 ≤ v.n ∧ v.n ≤ 9223372036854775807 := by
  subst h1 h2
  obtain ⟨v', en, rfl, rfl, hown, hb, hr⟩ := h
  obtain ⟨A, c, rfl⟩ := own_sl hown
  exact ⟨A, c, rfl, hown, hb, hr⟩
end Go.Proofs.Ytnieenlnpnaamaa
