/-
  Words on bytes with an error, and on lists of texts. Conditions: none.
-/
import Derived.Test.YtnieenlnpnaamaaEight
import Derived.Test.YtnieenlnpnaamaaNameMath
import Derived.Laws.Bits64
import Derived.Lib.AppendStr
namespace Go.Proofs.Ytnieenlnpnaamaa
open Go.RowKit

theorem wrap_u64 (n : Int) : IntKind.u64.wrap n = ((Cell.u64 n : Nat) : Int) := by
  unfold Cell.u64
  have : IntKind.u64.wrap n = n % 18446744073709551616 := by simp [IntKind.wrap, IntKind.signed, IntKind.bits]
  rw [this]
  omega
/-- Bytes of the call's own, and an error's number. -/
def BE (w : World) (r : Nat × List UInt8) (e : Ending) (w' : World) : Prop :=
  ∃ v', e = .returned (.tuple #[v', .int .i64 (r.1 : Int)]) ∧ w'.ownsRow w.heap.size 5 1 v' r.2.length (r.2.map B8) ∧ Below w.heap.size w w'
theorem BE.err {w w' : World} {r : Nat × List UInt8} (n : Nat) (h : r = (n, [])) (hb : Below w.heap.size w w') : BE w r (.returned (.tuple #[.slice none 0 0, .int .i64 (n : Int)])) w' := by
  subst h
  exact ⟨_, rfl, own_nil _ _ _ _, hb⟩
theorem BE.ok {w w' : World} {r : Nat × List UInt8} {A : Option Addr} {m c : Nat} {l : List UInt8} (h : r = (0, l)) (hm : m = l.length) (ho : w'.ownsRow (w.heap.size + 1) 5 1 (.slice A m c) m (l.map B8)) (hb : Below w.heap.size w w') : BE w r (.returned (.tuple #[.slice A m c, .int .i64 0])) w' := by
  subst h hm
  exact ⟨_, rfl, own_base ho (by omega), hb⟩
theorem u8_byte (n : Int) : IntKind.u8.wrap n = ((Cell.byteOf (n % 256).toNat).toNat : Int) := by
  have : IntKind.u8.wrap n = n % 256 := by simp [IntKind.wrap, IntKind.signed, IntKind.bits]
  rw [this, Cell.byteOf_toNat]
  omega
theorem str_len (s : ByteArray) : s.data.toList.length = s.size := by rw [Array.length_toList]; rfl
theorem str_at (s : ByteArray) (k : Nat) (h : k < s.size) : s.data.toList[k]'(by rw [str_len]; exact h) = s[k] := rfl
/-- 'out = append(out, s...)', s a text. -/
theorem wpList_appS {P : Program} (w : World) {ops : Array Oper} {rest : List Oper} {o : Oper} {a : Act} {Q : Exit → Act → World → Prop} {t e u : TypeId} (hT : Bt P t e) (hU : P.underlying u = some .string) (hgd : o.guard = none) (s x : Operand)
    (ho : o.op = .call { callee := .builtin .append, args := #[s, x], argTypes := #[t, u] })
    (base : Nat) (v : Value) (n : Nat) (l : List UInt8) (hs : a.eval s = v) (hown : w.ownsRow base e 1 v n (l.map B8))
    (str : ByteArray) (hx : a.eval x = .string str) (hbytes : n + str.size ≤ 140737488355328) (hbase : base ≤ w.heap.size)
    (h : ∀ v' w', w'.ownsRow base e 1 v' (n + str.size) ((l ++ str.data.toList).map B8) → Below base w w' → w.grownBy w' v.ownBlock → wpList P ops Q rest (a.put o.dst v') w') : wpList P ops Q (o :: rest) a w := by
  obtain ⟨i0, hi0, hz0, hz1, hz2⟩ := info_parts hT.2
  refine Lib.wpList_append_own_string w hgd s x t u ho base e i0 hT.1 hU hi0 hz0 hz1 hz2 v n _ hs hown str hx (by unfold maxLen; omega) hbytes hbase ?_
  intro v' w' h1 h2 _
  refine h v' w' ?_ ((Below.refl _ _).grown h2 hbase fun k hk => (hown.lt k hk).1) h2
  rw [List.map_append]
  exact h1
theorem BE.mk' {w w' : World} {r : Nat × List UInt8} {A : Option Addr} {m c : Nat} {l : List UInt8} (h : r = (0, l)) (hm : m = l.length) (ho : w'.ownsRow w.heap.size 5 1 (.slice A m c) m (l.map B8)) (hb : Below w.heap.size w w') : BE w r (.returned (.tuple #[.slice A m c, .int .i64 0])) w' := by
  subst h hm
  exact ⟨_, rfl, ho, hb⟩
theorem Rd.at1 {w : World} {B n k : Nat} {A : Option Addr} {xs : List Value} (h : Rd w B 1 A n xs) (hk : k < n) : ∃ b off u, A = some ⟨b, off, none⟩ ∧ b < B ∧ xs[k]? = some u ∧ w.cell? ⟨b, off + k, none⟩ = some u := by
  obtain ⟨b, off, e, hb, hc⟩ := h.2 (by omega)
  have hl : k < xs.length := by rw [h.1]; omega
  exact ⟨b, off, xs[k], e, hb, List.getElem?_eq_getElem hl, hc k _ (List.getElem?_eq_getElem hl)⟩
/-- A list of texts that is read. -/
def Rt (w : World) (B : Nat) (A : Option Addr) (n : Nat) (ns : List ByteArray) : Prop := Rd w B 1 A n (ns.map Value.string) ∧ ∀ s ∈ ns, s.size ≤ maxLen
theorem Rt.at {w : World} {B n k : Nat} {A : Option Addr} {ns : List ByteArray} (h : Rt w B A n ns) (hk : k < n) : ∃ b off s, A = some ⟨b, off, none⟩ ∧ b < B ∧ (ns.map (·.data.toList))[k]? = some s.data.toList ∧ s.size ≤ maxLen ∧ w.cell? ⟨b, off + k, none⟩ = some (.string s) := by
  obtain ⟨b, off, u, e, hb, hu, hc⟩ := h.1.at1 hk
  rw [List.getElem?_map] at hu
  cases hs : ns[k]? with
  | none => rw [hs] at hu; cases hu
  | some s =>
    rw [hs] at hu
    injection hu with hu
    subst hu
    exact ⟨b, off, s, e, hb, by rw [List.getElem?_map, hs]; rfl, h.2 s (List.mem_of_getElem? hs), hc⟩
theorem Rt.len {w : World} {B n : Nat} {A : Option Addr} {ns : List ByteArray} (h : Rt w B A n ns) : ns.length = n := by simpa [Rd] using h.1.1
theorem Rt.below {w w' : World} {B C n : Nat} {A : Option Addr} {ns : List ByteArray} (h : Rt w B A n ns) (hb : Below C w w') (hC : B ≤ C) : Rt w' B A n ns := ⟨h.1.below hb hC, h.2⟩
theorem Rt.lit (w : World) (t : TypeId) (ns : List ByteArray) (h : ∀ s ∈ ns, s.size ≤ maxLen) : Rt (w.alloc (.cells (ns.map Value.string).toArray t)) (w.alloc (.cells (ns.map Value.string).toArray t)).heap.size (some ⟨w.heap.size, 0, none⟩) ns.length ns := by
  refine ⟨?_, h⟩
  have := Rd.lit w t (ns.map Value.string)
  rw [List.length_map] at this
  rw [World.size_alloc]
  exact this
theorem Rt.litAt (w : World) (t : TypeId) (ns : List ByteArray) (h : ∀ s ∈ ns, s.size ≤ maxLen) (g : Nat) (hg : g = w.heap.size) : Rt (w.alloc (.cells (ns.map Value.string).toArray t)) (w.alloc (.cells (ns.map Value.string).toArray t)).heap.size (some ⟨g, 0, none⟩) ns.length ns := by
  subst hg
  exact Rt.lit w t ns h
theorem Rt.nil (w : World) (B : Nat) (A : Option Addr) : Rt w B A 0 [] := ⟨Rd.nil, by simp⟩
theorem BE.form {w w' : World} {r : Nat × List UInt8} {e : Ending} (h : BE w r e w') : ∃ A c, e = .returned (.tuple #[.slice A r.2.length c, .int .i64 (r.1 : Int)]) ∧ w'.ownsRow w.heap.size 5 1 (.slice A r.2.length c) r.2.length (r.2.map B8) ∧ Below w.heap.size w w' := by
  obtain ⟨v', rfl, h1, h2⟩ := h
  obtain ⟨A, c, rfl⟩ := own_sl h1
  exact ⟨A, c, rfl, h1, h2⟩
end Go.Proofs.Ytnieenlnpnaamaa
