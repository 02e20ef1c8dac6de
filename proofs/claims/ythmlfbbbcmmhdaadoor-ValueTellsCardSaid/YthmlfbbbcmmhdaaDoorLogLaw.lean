/-
  Plain laws of three-valued logic, and the contracts in the form in which the law's walk takes them. Conditions: the tables are as listed.
-/
import Derived.Test.YthmlfbbbcmmhdaaDoorLaw17
namespace Go.Proofs.YthmlfbbbcmmhdaaDoor
open Go.RowKit
namespace Lg
theorem kn_kn (a : Nat) : kn (kn a) = kn a := by unfold kn; omega
theorem and_kn (a b : Nat) : and_ a b = and_ (kn a) (kn b) := by unfold and_; rw [kn_kn, kn_kn]
theorem not_kn' (a : Nat) : not_ a = not_ (kn a) := by unfold not_; rw [kn_kn]
theorem or_kn (a b : Nat) : or_ a b = or_ (kn a) (kn b) := by unfold or_; rw [not_kn' a, not_kn' b]
theorem and_comm (a b : Nat) : and_ b a = and_ a b := by
  rw [and_kn b a, and_kn a b]
  exact (by decide : ∀ x y : Fin 3, and_ y.val x.val = and_ x.val y.val) ⟨kn a, kn_lt a⟩ ⟨kn b, kn_lt b⟩
theorem or_comm (a b : Nat) : or_ b a = or_ a b := by
  rw [or_kn b a, or_kn a b]
  exact (by decide : ∀ x y : Fin 3, or_ y.val x.val = or_ x.val y.val) ⟨kn a, kn_lt a⟩ ⟨kn b, kn_lt b⟩
theorem and_assoc (a b c : Nat) : and_ (and_ a b) c = and_ a (and_ b c) := by
  rw [and_kn (and_ a b) c, and_kn a (and_ b c), and_kn a b, and_kn b c]
  exact (by decide : ∀ x y z : Fin 3, and_ (kn (and_ x.val y.val)) z.val = and_ x.val (kn (and_ y.val z.val))) ⟨kn a, kn_lt a⟩ ⟨kn b, kn_lt b⟩ ⟨kn c, kn_lt c⟩
theorem or_assoc (a b c : Nat) : or_ (or_ a b) c = or_ a (or_ b c) := by
  rw [or_kn (or_ a b) c, or_kn a (or_ b c), or_kn a b, or_kn b c]
  exact (by decide : ∀ x y z : Fin 3, or_ (kn (or_ x.val y.val)) z.val = or_ x.val (kn (or_ y.val z.val))) ⟨kn a, kn_lt a⟩ ⟨kn b, kn_lt b⟩ ⟨kn c, kn_lt c⟩
theorem not_and (a b : Nat) : or_ (not_ a) (not_ b) = not_ (and_ a b) := by
  rw [or_kn, not_kn' (and_ a b), and_kn a b, not_kn' a, not_kn' b]
  exact (by decide : ∀ x y : Fin 3, or_ (kn (not_ x.val)) (kn (not_ y.val)) = not_ (kn (and_ x.val y.val))) ⟨kn a, kn_lt a⟩ ⟨kn b, kn_lt b⟩
theorem not_or (a b : Nat) : and_ (not_ a) (not_ b) = not_ (or_ a b) := by
  rw [and_kn (not_ a) (not_ b), not_kn' (or_ a b), or_kn a b, not_kn' a, not_kn' b]
  exact (by decide : ∀ x y : Fin 3, and_ (kn (not_ x.val)) (kn (not_ y.val)) = not_ (kn (or_ x.val y.val))) ⟨kn a, kn_lt a⟩ ⟨kn b, kn_lt b⟩
theorem and_self (a : Nat) : and_ a a = kn a := by
  rw [and_kn]
  exact (by decide : ∀ x : Fin 3, and_ x.val x.val = x.val) ⟨kn a, kn_lt a⟩
theorem or_self (a : Nat) : or_ a a = kn a := by
  rw [or_kn]
  exact (by decide : ∀ x : Fin 3, or_ x.val x.val = x.val) ⟨kn a, kn_lt a⟩
theorem not_not (a : Nat) : not_ (not_ a) = kn a := by
  rw [not_kn' (not_ a), not_kn' a]
  exact (by decide : ∀ x : Fin 3, not_ (kn (not_ x.val)) = x.val) ⟨kn a, kn_lt a⟩
theorem and_or (a b : Nat) : and_ a (or_ a b) = kn a := by
  rw [and_kn a (or_ a b), or_kn a b]
  exact (by decide : ∀ x y : Fin 3, and_ x.val (kn (or_ x.val y.val)) = x.val) ⟨kn a, kn_lt a⟩ ⟨kn b, kn_lt b⟩
theorem truth_of (a : Nat) : truth (of_ a) = (kn a, 0) := by
  unfold of_
  have h := kn_lt a
  generalize kn a = x at *
  match x, h with
  | 0, _ => rfl
  | 1, _ => rfl
  | 2, _ => rfl
end Lg
/-- What stands while the law runs. -/
def T3 (w wr : World) (m : Int) : Prop := Env wr m ∧ TOr wr ∧ TNot wr ∧ Below w.heap.size w wr
theorem T3.below {w wr w' : World} {m : Int} (h : T3 w wr m) (hb : Below wr.heap.size wr w') : T3 w w' m := ⟨h.1.below hb (Nat.le_refl _), h.2.1.below hb h.2.1.lt, h.2.2.1.below hb h.2.2.1.lt, h.2.2.2.trans (hb.mono h.2.2.2.size)⟩
theorem andC {w wr : World} {m : Int} {a b r : Nat} (hr : Lg.and_ a b = r) (h : T3 w wr m) : Calls Tryd.prog 26 #[.int .u8 (a : Int), .int .u8 (b : Int)] wr fun e w' => e = .returned (.int .u8 (r : Int)) ∧ T3 w w' m := by
  subst hr
  refine (vAnd_any a b wr h.1.and_).mono ?_
  rintro e w' ⟨rfl, q, rfl⟩
  exact ⟨rfl, h.below (below_drewN (Below.refl _ _) q)⟩
theorem orC {w wr : World} {m : Int} {a b r : Nat} (hr : Lg.or_ a b = r) (h : T3 w wr m) : Calls Tryd.prog 27 #[.int .u8 (a : Int), .int .u8 (b : Int)] wr fun e w' => e = .returned (.int .u8 (r : Int)) ∧ T3 w w' m := by
  subst hr
  refine (vOr_any a b wr h.2.1).mono ?_
  rintro e w' ⟨rfl, q, rfl⟩
  exact ⟨rfl, h.below (below_drewN (Below.refl _ _) q)⟩
theorem notC {w wr : World} {m : Int} {a r : Nat} (hr : Lg.not_ a = r) (h : T3 w wr m) : Calls Tryd.prog 18 #[.int .u8 (a : Int)] wr fun e w' => e = .returned (.int .u8 (r : Int)) ∧ T3 w w' m := by
  subst hr
  refine (vNot_any a wr h.2.2.1).mono ?_
  rintro e w' ⟨rfl, rfl⟩
  exact ⟨rfl, h⟩
end Go.Proofs.YthmlfbbbcmmhdaaDoor
