/-
  The plain mathematics of chapter 24: what an expression's value over a row is. Conditions: none. No program is named here.
-/
import Derived.Test.YticljmgcgjibpaaGreatDoorLogB
import Derived.Test.YticljmgcgjibpaaGreatDoorCmpD
import Derived.Test.YticljmgcgjibpaaGreatDoorFlow
namespace Go.Proofs.YticljmgcgjibpaaGreatDoor
namespace Ev
open Val (vz)
abbrev V := Cell.Val
/-- A node: the operation, the literal, the names, the place. -/
structure Hd where
  o : UInt8
  v : V
  nm : ByteArray
  of : ByteArray
  n : Int
inductive Ex where
  | mk (h : Hd) (ks : List Ex)
def Ex.hd : Ex → Hd
  | .mk h _ => h
def Ex.ks : Ex → List Ex
  | .mk _ ks => ks
def leaf (r : List V) (role : ByteArray) (h : Hd) : V × Nat :=
  if h.o = 1 then if Cell.rightB h.v = true then (h.v, 0) else (vz, 2)
  else if h.o = 22 then
    match (if h.n < 0 then none else r[h.n.toNat]?) with
    | none => (vz, 2)
    | some v => if Cell.rightB v = true then (v, 0) else (vz, 2)
  else if h.o = 21 then (⟨4, 0, role.extract 0 (min role.size 200)⟩, 0)
  else (vz, 330)
/-- The truth of what two, or one, truths make. -/
def lg2 (f : Nat → Nat → Nat) (a b : V) : V × Nat :=
  if (Lg.truth a).2 ≠ 0 then (vz, (Lg.truth a).2) else if (Lg.truth b).2 ≠ 0 then (vz, (Lg.truth b).2) else (Lg.of_ (f (Lg.truth a).1 (Lg.truth b).1), 0)
def lg1 (a : V) : V × Nat := if (Lg.truth a).2 ≠ 0 then (vz, (Lg.truth a).2) else (Lg.of_ (Lg.not_ (Lg.truth a).1), 0)
def cmp2 (o : Nat) (a b : V) : V × Nat := if (Val.compare o a b).2 ≠ 0 then (vz, (Val.compare o a b).2) else (Lg.of_ (Val.compare o a b).1, 0)
def null1 (a : V) : V × Nat := (Lg.of_ (if a.k = 0 then 1 else 0), 0)
/-- How many kids an operation has; 0: it has none. -/
def arity (o : UInt8) : Nat := if o = 3 ∨ o = 15 ∨ o = 16 then 1 else if 4 ≤ o.toNat ∧ o.toNat ≤ 14 then 2 else 0
def op1 (o : UInt8) (a : V) : V × Nat := if o = 3 then Val.neg a else if o = 15 then lg1 a else null1 a
def op2 (o : UInt8) (a b : V) : V × Nat := if o = 4 then Val.add a b else if o = 5 then Val.sub a b else if o = 6 then Val.mul a b else if o = 13 then lg2 Lg.and_ a b else if o = 14 then lg2 Lg.or_ a b else cmp2 o.toNat a b
def opn (o : UInt8) : List V → V × Nat
  | [a] => if arity o = 1 then op1 o a else (vz, 330)
  | [a, b] => if arity o = 2 then op2 o a b else (vz, 330)
  | _ => (vz, 330)
def consV (p : V × Nat) (q : List V × Nat) : List V × Nat := if p.2 ≠ 0 then ([], p.2) else if q.2 ≠ 0 then ([], q.2) else (p.1 :: q.1, 0)
def ansK (r : List V) (role : ByteArray) (h : Hd) (q : List V × Nat) : V × Nat := if q.2 ≠ 0 then (vz, q.2) else if q.1 = [] then leaf r role h else opn h.o q.1
mutual
def Ex.val (r : List V) (role : ByteArray) : Ex → V × Nat
  | .mk h ks => ansK r role h (vals r role ks)
def vals (r : List V) (role : ByteArray) : List Ex → List V × Nat
  | [] => ([], 0)
  | k :: ks => consV (k.val r role) (vals r role ks)
end
section
variable {r : List V} {role : ByteArray}
theorem cons_ok {p : V × Nat} {q : List V × Nat} (hp : p.2 = 0) (hq : q.2 = 0) : consV p q = (p.1 :: q.1, 0) := by
  unfold consV
  rw [if_neg (by simp [hp]), if_neg (by simp [hq])]
theorem cons_end {p : V × Nat} {q : List V × Nat} (hp : p.2 = 0) (hq : q.2 ≠ 0) : consV p q = ([], q.2) := by
  unfold consV
  rw [if_neg (by simp [hp]), if_pos hq]
theorem cons_fst {p : V × Nat} {q : List V × Nat} (hp : p.2 ≠ 0) : consV p q = ([], p.2) := by
  unfold consV
  rw [if_pos hp]
theorem cons_inv {p : V × Nat} {q : List V × Nat} {l : List V} (h : consV p q = (l, 0)) : p.2 = 0 ∧ q.2 = 0 ∧ l = p.1 :: q.1 := by
  by_cases hp : p.2 = 0
  · by_cases hq : q.2 = 0
    · rw [cons_ok hp hq] at h
      injection h with h _
      exact ⟨hp, hq, h.symm⟩
    · rw [cons_end hp hq] at h
      injection h with _ h
      exact absurd h hq
  · rw [cons_fst hp] at h
    injection h with _ h
    exact absurd h hp
theorem vals_cons (k : Ex) (ks : List Ex) : vals r role (k :: ks) = consV (k.val r role) (vals r role ks) := by simp only [vals]
theorem vals_put : ∀ {ks : List Ex} {l : List V} {x : Ex} {v : V}, vals r role ks = (l, 0) → x.val r role = (v, 0) → vals r role (ks ++ [x]) = (l ++ [v], 0) := by
  intro ks
  induction ks with
  | nil =>
    intro l x v h hv
    simp only [vals] at h
    injection h with h _
    subst h
    rw [List.nil_append, vals_cons, cons_ok (by rw [hv]) (by simp only [vals]), hv]
    simp only [vals]
    rfl
  | cons k ks ih =>
    intro l x v h hv
    rw [vals_cons] at h
    obtain ⟨h1, h2, rfl⟩ := cons_inv h
    have := ih (l := (vals r role ks).1) (Prod.ext rfl h2) hv
    rw [List.cons_append, vals_cons, cons_ok h1 (by rw [this]), this]
    rfl
theorem vals_halt : ∀ {ks rest : List Ex} {l : List V} {x : Ex} {v : V} {e : Nat}, vals r role ks = (l, 0) → x.val r role = (v, e) → e ≠ 0 → vals r role (ks ++ x :: rest) = ([], e) := by
  intro ks
  induction ks with
  | nil =>
    intro rest l x v e h hv he
    rw [List.nil_append, vals_cons, cons_fst (by rw [hv]; exact he), hv]
  | cons k ks ih =>
    intro rest l x v e h hv he
    rw [vals_cons] at h
    obtain ⟨h1, h2, rfl⟩ := cons_inv h
    have := ih (rest := rest) (l := (vals r role ks).1) (Prod.ext rfl h2) hv he
    rw [List.cons_append, vals_cons, cons_end h1 (by rw [this]; exact he), this]
theorem vals_snoc {ks : List Ex} {k : Nat} {x : Ex} {l : List V} {v : V} (h : vals r role (ks.take k) = (l, 0)) (hx : ks[k]? = some x) (hv : x.val r role = (v, 0)) : vals r role (ks.take (k + 1)) = (l ++ [v], 0) := by
  have e : ks.take (k + 1) = ks.take k ++ [x] := by
    rw [List.take_add_one, hx]
    rfl
  rw [e]
  exact vals_put h hv
theorem vals_stop {ks : List Ex} {k : Nat} {x : Ex} {l : List V} {v : V} {e : Nat} (h : vals r role (ks.take k) = (l, 0)) (hx : ks[k]? = some x) (hv : x.val r role = (v, e)) (he : e ≠ 0) : vals r role ks = ([], e) := by
  have hk := (List.getElem?_eq_some_iff.1 hx).1
  have e1 : ks = ks.take k ++ (x :: ks.drop (k + 1)) := by
    have : ks[k] = x := (List.getElem?_eq_some_iff.1 hx).2
    rw [← this, ← List.drop_eq_getElem_cons hk, List.take_append_drop]
  rw [e1]
  exact vals_halt h hv he
theorem vals_len : ∀ {ks : List Ex} {l : List V}, vals r role ks = (l, 0) → l.length = ks.length := by
  intro ks
  induction ks with
  | nil => intro l h; simp only [vals] at h; injection h with h _; rw [← h]; rfl
  | cons k ks ih =>
    intro l h
    rw [vals_cons] at h
    obtain ⟨h1, h2, rfl⟩ := cons_inv h
    rw [List.length_cons, List.length_cons, ih (l := (vals r role ks).1) (Prod.ext rfl h2)]
theorem val_err {h : Hd} {ks : List Ex} {e : Nat} (hv : vals r role ks = ([], e)) (he : e ≠ 0) : (Ex.mk h ks).val r role = (vz, e) := by
  simp only [Ex.val, ansK, hv]
  rw [if_pos he]
theorem val_leaf {h : Hd} : (Ex.mk h []).val r role = leaf r role h := by
  simp [Ex.val, ansK, vals]
theorem val_op {h : Hd} {ks : List Ex} {l : List V} (hv : vals r role ks = (l, 0)) (hl : l ≠ []) : (Ex.mk h ks).val r role = opn h.o l := by
  simp only [Ex.val, ansK, hv]
  simp [hl]
end
/-- Is: its truth. -/
def is (p : V × Nat) : Nat × Nat := if p.2 ≠ 0 then (0, p.2) else Lg.truth p.1
/-- Within 64 bits. -/
def inR (v : V) : Prop := -9223372036854775808 ≤ v.n ∧ v.n ≤ 9223372036854775807
theorem inR_vz : inR vz := by unfold inR; decide
theorem inR_of (a : Nat) : inR (Lg.of_ a) := by
  unfold Lg.of_ inR
  repeat' split
  all_goals decide
theorem inR_fit {k : UInt8} {x : Int} : inR (Val.answer k x).1 := by
  unfold Val.answer
  split
  · exact inR_vz
  · rename_i n h
    unfold Val.fit at h
    split at h
    · rename_i hb
      injection h with h
      subst h
      exact hb
    · cases h
theorem inR_add (a b : V) : inR (Val.add a b).1 := by
  unfold Val.add
  repeat' split
  all_goals first | with_reducible exact inR_vz | with_reducible exact inR_fit
theorem inR_sub (a b : V) : inR (Val.sub a b).1 := by
  unfold Val.sub
  repeat' split
  all_goals first | with_reducible exact inR_vz | with_reducible exact inR_fit
theorem inR_mul (a b : V) : inR (Val.mul a b).1 := by
  unfold Val.mul
  repeat' split
  all_goals first | with_reducible exact inR_vz | with_reducible exact inR_fit
theorem inR_neg (a : V) : inR (Val.neg a).1 := by
  unfold Val.neg
  repeat' split
  all_goals first | with_reducible exact inR_vz | with_reducible exact inR_fit
theorem inR_opn (o : UInt8) (l : List V) : inR (opn o l).1 := by
  unfold opn
  split
  · split
    · unfold op1 lg1 null1
      repeat' split
      all_goals first | with_reducible exact inR_vz | with_reducible exact inR_of _ | with_reducible exact inR_neg _
    · exact inR_vz
  · split
    · unfold op2 lg2 cmp2
      repeat' split
      all_goals first | with_reducible exact inR_vz | with_reducible exact inR_of _ | with_reducible exact inR_add _ _ | with_reducible exact inR_sub _ _ | with_reducible exact inR_mul _ _
    · exact inR_vz
  · exact inR_vz
theorem inR_leaf {r : List V} {role : ByteArray} {h : Hd} (hr : ∀ v ∈ r, inR v) (hv : inR h.v) : inR (leaf r role h).1 := by
  unfold leaf
  split
  · split
    · exact hv
    · exact inR_vz
  · split
    · split
      · exact inR_vz
      · rename_i v hq
        split at hq
        · cases hq
        · split
          · exact hr _ (List.mem_of_getElem? hq)
          · exact inR_vz
    · split
      · unfold inR; simp
      · exact inR_vz
theorem inR_val {r : List V} {role : ByteArray} {h : Hd} {ks : List Ex} (hr : ∀ v ∈ r, inR v) (hv : inR h.v) : inR ((Ex.mk h ks).val r role).1 := by
  simp only [Ex.val, ansK]
  split
  · exact inR_vz
  · split
    · exact inR_leaf hr hv
    · exact inR_opn _ _
end Ev
end Go.Proofs.YticljmgcgjibpaaGreatDoor

/-
  What lies in memory for chapter 24: rows of values, trees of expressions; a value put behind a row; a result that lies in a cell; the tables. Conditions: none.
-/
namespace Go.Proofs.YticljmgcgjibpaaGreatDoor
open Go.RowKit

def vcells : List Cell.Val → List Value
  | [] => []
  | v :: r => .int .u8 (v.k.toNat : Int) :: .int .i64 v.n :: .string v.s :: vcells r
theorem vcells_len : ∀ r : List Cell.Val, (vcells r).length = r.length * 3 := by
  intro r
  induction r with
  | nil => rfl
  | cons v r ih => simp only [vcells, List.length_cons, ih]; omega
theorem vcells_append : ∀ r r' : List Cell.Val, vcells (r ++ r') = vcells r ++ vcells r' := by
  intro r r'
  induction r with
  | nil => rfl
  | cons v r ih => simp only [vcells, List.cons_append, ih]
theorem vcells_at : ∀ (r : List Cell.Val) (i : Nat) (v : Cell.Val), r[i]? = some v → (vcells r)[i * 3]? = some (.int .u8 (v.k.toNat : Int)) ∧ (vcells r)[i * 3 + 1]? = some (.int .i64 v.n) ∧ (vcells r)[i * 3 + 2]? = some (.string v.s) := by
  intro r
  induction r with
  | nil => intro i v h; cases h
  | cons u r ih =>
    intro i v h
    match i with
    | 0 =>
      injection h with h
      subst h
      exact ⟨rfl, rfl, rfl⟩
    | i + 1 =>
      obtain ⟨h1, h2, h3⟩ := ih i v (by simpa using h)
      rw [show (i + 1) * 3 = i * 3 + 3 by omega]
      exact ⟨by simpa [vcells] using h1, by simpa [vcells] using h2, by simpa [vcells] using h3⟩
theorem vcells_one (r : List Cell.Val) : ∀ u ∈ vcells r, u.oneCell' = true := by
  induction r with
  | nil => intro u hu; cases hu
  | cons v r ih =>
    intro u hu
    simp only [vcells, List.mem_cons] at hu
    rcases hu with rfl | rfl | rfl | hu
    · rfl
    · rfl
    · rfl
    · exact ih u hu
/-- Within 64 bits; a text that may be. -/
def vOk (v : Cell.Val) : Prop := v.s.size ≤ maxLen ∧ Ev.inR v
/-- A slice that reads as a list of values. -/
def Rv (w : World) (B : Nat) (A : Option Addr) (n : Nat) (r : List Cell.Val) : Prop := Rd w B 3 A n (vcells r) ∧ ∀ v ∈ r, vOk v
theorem Rv.len {w : World} {B n : Nat} {A : Option Addr} {r : List Cell.Val} (h : Rv w B A n r) : r.length = n := by
  have := h.1.1
  rw [vcells_len] at this
  omega
theorem Rv.at {w : World} {B n k : Nat} {A : Option Addr} {r : List Cell.Val} (h : Rv w B A n r) (hk : k < n) : ∃ b off kd nn ss, A = some ⟨b, off, none⟩ ∧ b < B ∧ r[k]? = some ⟨kd, nn, ss⟩ ∧ w.cell? ⟨b, off + k * 3, none⟩ = some (.int .u8 (kd.toNat : Int)) ∧ w.cell? ⟨b, off + k * 3 + 1, none⟩ = some (.int .i64 nn) ∧ w.cell? ⟨b, off + k * 3 + 2, none⟩ = some (.string ss) ∧ vOk ⟨kd, nn, ss⟩ := by
  obtain ⟨b, off, e, hb, hc⟩ := h.1.2 (by omega)
  have hl : k < r.length := by rw [h.len]; exact hk
  obtain ⟨h1, h2, h3⟩ := vcells_at r k r[k] (List.getElem?_eq_getElem hl)
  refine ⟨b, off, r[k].k, r[k].n, r[k].s, e, hb, List.getElem?_eq_getElem hl, hc _ _ h1, ?_, ?_, h.2 r[k] (List.getElem_mem hl)⟩
  · rw [Nat.add_assoc]; exact hc _ _ h2
  · rw [Nat.add_assoc]; exact hc _ _ h3
theorem Rv.below {w w' : World} {B C n : Nat} {A : Option Addr} {r : List Cell.Val} (h : Rv w B A n r) (hb : Below C w w') (hC : B ≤ C) : Rv w' B A n r := ⟨h.1.below hb hC, h.2⟩
theorem Rv.more {w : World} {B C n : Nat} {A : Option Addr} {r : List Cell.Val} (h : Rv w B A n r) (hC : B ≤ C) : Rv w C A n r := ⟨h.1.more hC, h.2⟩
theorem Rv.next {w w' : World} {n : Nat} {A : Option Addr} {r : List Cell.Val} (h : Rv w w.heap.size A n r) (hb : Below w.heap.size w w') : Rv w' w'.heap.size A n r := (h.below hb (Nat.le_refl _)).more hb.size
theorem Rv.own {w : World} {base n c : Nat} {A : Option Addr} {r : List Cell.Val} (h : w.ownsRow base 25 3 (.slice A n c) n (vcells r)) (hr : ∀ v ∈ r, vOk v) : Rv w w.heap.size A n r := ⟨Rd.own h, hr⟩
theorem infoV : (Tryz.prog.info? 25).map (fun i => (i.zero, i.size, i.bytes)) = some (some (.agg #[.int .u8 0, .int .i64 0, .string ByteArray.empty]), 3, 32) := by kernel_rfl
/-- 'out = append(out, v)' of values; the value lies in a block of its own. -/
theorem wpList_appV {ops : Array Oper} {rest : List Oper} {o : Oper} {a : Act} {Q : Exit → Act → World → Prop} {w : World} (hgd : o.guard = none) (s x : Operand) {T : TypeId} (hT : Tryz.prog.underlying T = some (.slice 25))
    (ho : o.op = .call { callee := .builtin .append, args := #[s, x], argTypes := #[T, T] })
    (lo : Nat) (v : Value) (l : List Cell.Val) (hs : a.eval s = v) (hF : w.ownsRow lo 25 3 v l.length (vcells l))
    (g c : Nat) (u : Cell.Val) (hx : a.eval x = .slice (some ⟨g, 0, none⟩) 1 c) {cs : Array Value} (hcs : cs = #[.int .u8 (u.k.toNat : Int), .int .i64 u.n, .string u.s]) (hg : Blk w g 25 cs) (hm : (l.length + 1) * 32 ≤ 140737488355328) (hlo : lo ≤ w.heap.size)
    (h : ∀ v' w', w'.ownsRow lo 25 3 v' (l ++ [u]).length (vcells (l ++ [u])) → Below lo w w' → wpList Tryz.prog ops Q rest (a.put o.dst v') w') : wpList Tryz.prog ops Q (o :: rest) a w := by
  subst hcs
  obtain ⟨iC, hiC, hz0, hz1, hz2⟩ := info_parts infoV
  have hr : Rd w (g + 1) 3 (some ⟨g, 0, none⟩) 1 (vcells [u]) := by
    refine ⟨rfl, fun _ => ⟨g, 0, rfl, by omega, fun j z hu => ?_⟩⟩
    have := hg.cell j
    rw [Nat.zero_add, this]
    simpa [vcells] using hu
  refine wpList_append_rd w hgd s x _ ho lo 25 iC _ 3 32 hT hiC hz0 hz1 hz2 rfl (by omega) v l.length (vcells l) hs hF _ _ 1 c _ hx hr (vcells_one _) (by unfold maxLen; omega) hm hlo ?_
  intro v3 w3 hown3 hb3 _
  refine h v3 w3 ?_ hb3
  rw [vcells_append, List.length_append]
  exact hown3
/-- The node's own fields may be. -/
def HdOk (h : Ev.Hd) : Prop := vOk h.v ∧ h.nm.size ≤ maxLen ∧ h.of.size ≤ maxLen ∧ -9223372036854775808 ≤ h.n ∧ h.n ≤ 9223372036854775807
/-- An expression, as a value. -/
def exV (h : Ev.Hd) (A : Option Addr) (m c : Nat) : Value := .agg #[.int .u8 (h.o.toNat : Int), .int .u8 (h.v.k.toNat : Int), .int .i64 h.v.n, .string h.v.s, .string h.nm, .string h.of, .int .i64 h.n, .slice A m c]
/-- Kids that are read, d deep at most; their blocks are among P. -/
def ExK (w : World) (P : Nat → Prop) : Nat → Option Addr → Nat → List Ev.Ex → Prop
  | 0, _, m, ks => m = 0 ∧ ks = []
  | d + 1, A, m, ks => m = ks.length ∧ m * 104 ≤ 140737488355328 ∧ (0 < m → ∃ g off, A = some ⟨g, off, none⟩ ∧ P g ∧ ∀ (i : Nat) (h : Ev.Hd) (ks' : List Ev.Ex), ks[i]? = some (.mk h ks') → ∃ A' c',
      w.cell? ⟨g, off + i * 8, none⟩ = some (.int .u8 (h.o.toNat : Int)) ∧ w.cell? ⟨g, off + i * 8 + 1, none⟩ = some (.int .u8 (h.v.k.toNat : Int)) ∧ w.cell? ⟨g, off + i * 8 + 2, none⟩ = some (.int .i64 h.v.n) ∧ w.cell? ⟨g, off + i * 8 + 3, none⟩ = some (.string h.v.s) ∧
      w.cell? ⟨g, off + i * 8 + 4, none⟩ = some (.string h.nm) ∧ w.cell? ⟨g, off + i * 8 + 5, none⟩ = some (.string h.of) ∧ w.cell? ⟨g, off + i * 8 + 6, none⟩ = some (.int .i64 h.n) ∧ w.cell? ⟨g, off + i * 8 + 7, none⟩ = some (.slice A' ks'.length c') ∧
      ks'.length ≤ c' ∧ c' ≤ 9223372036854775807 ∧ HdOk h ∧ ExK w P d A' ks'.length ks')
section
variable {w w' : World} {P P' : Nat → Prop}
theorem ExK.len : ∀ {d : Nat} {A : Option Addr} {m : Nat} {ks : List Ev.Ex}, ExK w P d A m ks → m = ks.length ∧ m * 104 ≤ 140737488355328 := by
  intro d
  cases d with
  | zero => intro A m ks h; obtain ⟨rfl, rfl⟩ := h; exact ⟨rfl, by omega⟩
  | succ d => intro A m ks h; exact ⟨h.1, h.2.1⟩
theorem ExK.keep (hP : ∀ g, P g → P' g) (hk : ∀ g o, P g → w'.cell? ⟨g, o, none⟩ = w.cell? ⟨g, o, none⟩) : ∀ {d : Nat} {A : Option Addr} {m : Nat} {ks : List Ev.Ex}, ExK w P d A m ks → ExK w' P' d A m ks := by
  intro d
  induction d with
  | zero => intro A m ks h; exact h
  | succ d ih =>
    intro A m ks h
    obtain ⟨h1, h2, h3⟩ := h
    refine ⟨h1, h2, fun h0 => ?_⟩
    obtain ⟨g, off, e, hg, hc⟩ := h3 h0
    refine ⟨g, off, e, hP g hg, fun i h ks' hi => ?_⟩
    obtain ⟨A', c', c0, c1, c2, c3, c4, c5, c6, c7, e1, e2, e3, e4⟩ := hc i h ks' hi
    exact ⟨A', c', (hk _ _ hg).trans c0, (hk _ _ hg).trans c1, (hk _ _ hg).trans c2, (hk _ _ hg).trans c3, (hk _ _ hg).trans c4, (hk _ _ hg).trans c5, (hk _ _ hg).trans c6, (hk _ _ hg).trans c7, e1, e2, e3, ih e4⟩
theorem ExK.next {d m : Nat} {A : Option Addr} {ks : List Ev.Ex} (h : ExK w (· < w.heap.size) d A m ks) (hb : Below w.heap.size w w') : ExK w' (· < w'.heap.size) d A m ks :=
  ExK.keep (fun _ hg => Nat.lt_of_lt_of_le hg hb.size) (fun _ _ hg => hb.cell hg) h
theorem ExK.nil (w : World) (P : Nat → Prop) (d : Nat) (A : Option Addr) : ExK w P d A 0 [] := by
  cases d with
  | zero => exact ⟨rfl, rfl⟩
  | succ d => exact ⟨rfl, by omega, fun h => absurd h (by omega)⟩
/-- A kid. -/
theorem ExK.at {d m i : Nat} {A : Option Addr} {ks : List Ev.Ex} (h : ExK w P d A m ks) (hi : i < m) : ∃ d' g off hd ks' A' c', d = d' + 1 ∧ A = some ⟨g, off, none⟩ ∧ P g ∧ ks[i]? = some (.mk hd ks') ∧
    w.cell? ⟨g, off + i * 8, none⟩ = some (.int .u8 (hd.o.toNat : Int)) ∧ w.cell? ⟨g, off + i * 8 + 1, none⟩ = some (.int .u8 (hd.v.k.toNat : Int)) ∧ w.cell? ⟨g, off + i * 8 + 2, none⟩ = some (.int .i64 hd.v.n) ∧ w.cell? ⟨g, off + i * 8 + 3, none⟩ = some (.string hd.v.s) ∧
    w.cell? ⟨g, off + i * 8 + 4, none⟩ = some (.string hd.nm) ∧ w.cell? ⟨g, off + i * 8 + 5, none⟩ = some (.string hd.of) ∧ w.cell? ⟨g, off + i * 8 + 6, none⟩ = some (.int .i64 hd.n) ∧ w.cell? ⟨g, off + i * 8 + 7, none⟩ = some (.slice A' ks'.length c') ∧
    ks'.length ≤ c' ∧ c' ≤ 9223372036854775807 ∧ HdOk hd ∧ ExK w P d' A' ks'.length ks' := by
  cases d with
  | zero => obtain ⟨rfl, _⟩ := h; omega
  | succ d =>
    obtain ⟨h1, h2, h3⟩ := h
    obtain ⟨g, off, e, hg, hc⟩ := h3 (by omega)
    have hk : ks[i]? = some ks[i] := List.getElem?_eq_getElem (by omega)
    obtain ⟨hd, ks', hx⟩ : ∃ hd ks', ks[i] = Ev.Ex.mk hd ks' := by
      cases hq : ks[i] with
      | mk hd ks' => exact ⟨hd, ks', rfl⟩
    rw [hx] at hk
    obtain ⟨A', c', hall⟩ := hc i hd ks' hk
    exact ⟨d, g, off, hd, ks', A', c', rfl, e, hg, hk, hall⟩
end
/-- The tables of truth. -/
def Env (w : World) : Prop := TAnd w ∧ TOr w ∧ TNot w
theorem Env.tand {w : World} (h : Env w) : TAnd w := h.1
theorem Env.tor {w : World} (h : Env w) : TOr w := h.2.1
theorem Env.tnot {w : World} (h : Env w) : TNot w := h.2.2
theorem Env.next {w w' : World} (h : Env w) (hb : Below w.heap.size w w') : Env w' := ⟨h.1.below hb h.1.lt, h.2.1.below hb h.2.1.lt, h.2.2.below hb h.2.2.lt⟩
/-- A result of which a part lies in a cell. -/
theorem results_val {fn : Func} {p u : Tmp} {tmps : Array Value} {w : World} {g : Nat} {k n s v : Value} (h : fn.results = #[.cell p 25, .tmp u]) (hk : Blk w g 25 #[k, n, s]) (hp : tmps.getD p undef = .pointer (some ⟨g, 0, none⟩)) (hu : tmps.getD u undef = v) :
    (results fn tmps).run Tryz.prog w = .ok (.tuple #[.agg #[k, n, s], v]) w := by
  have r0 := hk.cell 0
  have r1 := hk.cell 1
  have r2 := hk.cell 2
  simp at r0 r1 r2
  rw [results_cell_tmp h, hp, hu]
  simp [go_sem, r0, r1, r2]
theorem blk3 {w : World} {g : Nat} {t : TypeId} {a b c : Value} (h : Blk w g t #[a, b, c]) (x y z : Value) : Blk (((w.setCell ⟨g, 0, none⟩ x).setCell ⟨g, 1, none⟩ y).setCell ⟨g, 2, none⟩ z) g t #[x, y, z] := by
  simpa using ((h.put 0 x).put 1 y).put 2 z
theorem below3 {B g : Nat} {w0 w : World} (h : Below B w0 w) (hg : B ≤ g) (x y z : Value) : Below B w0 (((w.setCell ⟨g, 0, none⟩ x).setCell ⟨g, 1, none⟩ y).setCell ⟨g, 2, none⟩ z) :=
  ((h.setCell hg _).setCell hg _).setCell hg _
end Go.Proofs.YticljmgcgjibpaaGreatDoor
