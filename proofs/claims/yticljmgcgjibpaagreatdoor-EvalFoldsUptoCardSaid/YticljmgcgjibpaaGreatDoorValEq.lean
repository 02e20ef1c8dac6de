/-
  Comparing two values of type api.Value. Conditions: none.
-/
import Derived.Test.YticljmgcgjibpaaGreatDoorRight
import Derived.Laws.StructEq
namespace Go.Proofs.YticljmgcgjibpaaGreatDoor
open Go.RowKit
theorem eqGuardV : Tryz.prog.eqGuardType Tryz.prog.depth 25 = false := by kernel_rfl
theorem stoodV : Tryz.prog.stoodInHeld 25 = false := by kernel_rfl
theorem fieldsV : Tryz.prog.underlying 25 = some (.struct (Tryz.prog.fieldsOf 25)) := by kernel_rfl
theorem fieldsVL : (Tryz.prog.fieldsOf 25).toList.map (fun f => (f.name, f.type, f.offset)) = [("Kind", 23, 0), ("N", 2, 1), ("S", 9, 2)] := by kernel_rfl
theorem three {α : Type} {l : List α} {β : Type} {f : α → β} {a b c : β} (h : l.map f = [a, b, c]) : ∃ x y z, l = [x, y, z] ∧ f x = a ∧ f y = b ∧ f z = c := by
  match l, h with
  | [x, y, z], h => simp at h; exact ⟨x, y, z, rfl, h.1, h.2.1, h.2.2⟩
def vbeq (v v' : Cell.Val) : Bool := ((v.k.toNat : Int) == (v'.k.toNat : Int)) && ((v.n == v'.n) && (v.s.toList == v'.s.toList))
theorem vbeq_iff (v v' : Cell.Val) : vbeq v v' = true ↔ v = v' := by
  unfold vbeq
  simp only [Bool.and_eq_true, beq_iff_eq, ByteArray.toList_eq]
  constructor
  · rintro ⟨h1, h2, h3⟩
    exact Cell.Val.ext' (UInt8.toNat_inj.1 (by omega)) h2 h3
  · rintro rfl
    exact ⟨rfl, rfl, rfl⟩
theorem equalV (w : World) (v v' : Cell.Val) : (Op.equalIn 10000 25 (.agg #[.int .u8 (v.k.toNat : Int), .int .i64 v.n, .string v.s]) (.agg #[.int .u8 (v'.k.toNat : Int), .int .i64 v'.n, .string v'.s])).run Tryz.prog w = .ok (vbeq v v') w := by
  rw [run_equalIn_agg w 9999 25 _ _ fieldsV stoodV]
  obtain ⟨x, y, z, hl, hx, hy, hz⟩ := three fieldsVL
  rw [hl]
  obtain ⟨xn, xt, xo⟩ := x
  obtain ⟨yn, yt, yo⟩ := y
  obtain ⟨zn, zt, zo⟩ := z
  simp only [Prod.mk.injEq] at hx hy hz
  obtain ⟨rfl, rfl, rfl⟩ := hx
  obtain ⟨rfl, rfl, rfl⟩ := hy
  obtain ⟨rfl, rfl, rfl⟩ := hz
  unfold vbeq
  have p34 : ∀ (cs : Array Value) (off : Nat) (u : Value), cs[off]? = some u → (part 23 cs off).run Tryz.prog w = .ok u w := fun cs off u h => by
    simp only [part, Sem.run_bind, isAgg, run_underlying Tryz.underlying23, Result.andThen_ok, Sem.run_pure]
    simp [h]
  have p2 : ∀ (cs : Array Value) (off : Nat) (u : Value), cs[off]? = some u → (part 2 cs off).run Tryz.prog w = .ok u w := fun cs off u h => by
    simp only [part, Sem.run_bind, isAgg, run_underlying Tryz.underlying2, Result.andThen_ok, Sem.run_pure]
    simp [h]
  have p9 : ∀ (cs : Array Value) (off : Nat) (u : Value), cs[off]? = some u → (part 9 cs off).run Tryz.prog w = .ok u w := fun cs off u h => by
    simp only [part, Sem.run_bind, isAgg, run_underlying Tryz.underlying9, Result.andThen_ok, Sem.run_pure]
    simp [h]
  simp only [Op.eqFields, Sem.run_bind, Sem.run_ite]
  rw [if_pos (by decide), p34 _ 0 (.int .u8 (v.k.toNat : Int)) rfl, Result.andThen_ok, p34 _ 0 (.int .u8 (v'.k.toNat : Int)) rfl, Result.andThen_ok, run_equalIn_int w 9998 23 .u8 .u8 _ _ Tryz.underlying23, Result.andThen_ok]
  cases ((v.k.toNat : Int) == (v'.k.toNat : Int))
  · rfl
  rw [if_neg (by decide), if_pos (by decide), p2 _ 1 (.int .i64 v.n) rfl, Result.andThen_ok, p2 _ 1 (.int .i64 v'.n) rfl, Result.andThen_ok, run_equalIn_int w 9998 2 .i64 .i64 _ _ Tryz.underlying2, Result.andThen_ok]
  cases (v.n == v'.n)
  · rfl
  rw [if_neg (by decide), if_pos (by decide), p9 _ 2 (.string v.s) rfl, Result.andThen_ok, p9 _ 2 (.string v'.s) rfl, Result.andThen_ok, run_equalIn_string w 9998 9 _ _ Tryz.underlying9, Result.andThen_ok]
  cases (v.s.toList == v'.s.toList) <;> rfl
theorem neqV (w : World) (v v' : Cell.Val) : (binOp .neq 25 (.agg #[.int .u8 (v.k.toNat : Int), .int .i64 v.n, .string v.s]) (.agg #[.int .u8 (v'.k.toNat : Int), .int .i64 v'.n, .string v'.s])).run Tryz.prog w = .ok (.bool (!vbeq v v')) w := by
  rw [run_neq_struct, equalV, Result.andThen_ok]
theorem eqlV (w : World) (v v' : Cell.Val) : (binOp .eql 25 (.agg #[.int .u8 (v.k.toNat : Int), .int .i64 v.n, .string v.s]) (.agg #[.int .u8 (v'.k.toNat : Int), .int .i64 v'.n, .string v'.s])).run Tryz.prog w = .ok (.bool (vbeq v v')) w := by
  rw [run_eql_struct, equalV, Result.andThen_ok]
theorem guardV (w : World) (op : BinOp) (x y : Operand) (xs ys : Array Value) : (eqGuard op 25 x y (.agg xs) (.agg ys)).run Tryz.prog w = .ok () w := run_eqGuard_agg w op _ x y xs ys eqGuardV
end Go.Proofs.YticljmgcgjibpaaGreatDoor
