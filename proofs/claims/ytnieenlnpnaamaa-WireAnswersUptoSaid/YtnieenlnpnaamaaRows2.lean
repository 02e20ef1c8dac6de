/-
  Words on memory and plain laws for the reading of answers: rows of rows of the call's own, a part of a list of frames. Conditions: none.
-/
import Derived.Test.YtnieenlnpnaamaaEqF
namespace Go.Proofs.Ytnieenlnpnaamaa
open Go.RowKit

namespace Wire
theorem Says.cand {a : Ans} {l : List (UInt8 × List UInt8)} (h : Says a l) : ∃ m f, l.length = m + 1 ∧ l[m]? = some f ∧ f.2.length = 4 ∧ (be4 f.2 : Int) = a.count ∧ (m = 0 → a.names = []) ∧ (0 < m → ∃ g, l[0]? = some g ∧ namesOf g.2 = some a.names) ∧ readRows ((l.take m).drop 1) = some a.rows := by
  obtain ⟨fs, hl, hc, h0, h1, hr⟩ := h.parts
  subst hl
  refine ⟨fs.length, (7, fourB a.count.toNat), by rw [List.length_append]; rfl, List.getElem?_concat_length, fourB_len _, hc, fun hm => ?_, fun hm => ?_, ?_⟩
  · by_cases hn : a.names = []
    · exact hn
    · rw [(h1 hn).1] at hm
      simp at hm
  · by_cases hn : a.names = []
    · rw [(h0 hn).1] at hm
      simp at hm
    · obtain ⟨g1, g2, _, _⟩ := h1 hn
      rw [g1]
      exact ⟨_, rfl, g2⟩
  · rw [List.take_left']
    · by_cases hn : a.names = []
      · obtain ⟨g1, g2⟩ := h0 hn
        rw [g1, g2]
        rfl
      · obtain ⟨g1, _, _, g4⟩ := h1 hn
        rw [g1]
        exact g4
    · rfl
end Wire
theorem frCells_drop1 (fs : List Fr) (bs : List Value) : frCells (fs.drop 1) (bs.drop 1) = (frCells fs bs).drop 2 ∨ fs.length ≠ bs.length := by
  cases fs with
  | nil => left; simp [frCells]
  | cons f fs =>
    cases bs with
    | nil => right; simp
    | cons b bs => left; simp [frCells]
theorem frCells_take : ∀ (fs : List Fr) (bs : List Value) (m : Nat), frCells (fs.take m) (bs.take m) = (frCells fs bs).take (m * 2) := by
  intro fs
  induction fs with
  | nil => intro bs m; simp [frCells]
  | cons f fs ih =>
    intro bs m
    cases bs with
    | nil => cases m <;> simp [frCells]
    | cons b bs =>
      cases m with
      | zero => simp [frCells]
      | succ m =>
        rw [List.take_succ_cons, List.take_succ_cons, show (m + 1) * 2 = m * 2 + 1 + 1 by omega]
        simp only [frCells, List.take_succ_cons, ih]
/-- 'l[:m][1:]'. -/
theorem FrRd.mid {w : World} {B : Nat} {g off n m : Nat} {l : List Fr} (h : FrRd w B (some ⟨g, off, none⟩) n l) (hm : m ≤ n) (h1 : 1 ≤ m) : FrRd w B (some ⟨g, off + 2, none⟩) (m - 1) ((l.take m).drop 1) := by
  obtain ⟨hn, bs, hb, hr, he⟩ := h
  refine ⟨by simp; omega, (bs.take m).drop 1, by simp [hb], ⟨?_, fun h0 => ?_⟩, fun i f b hf hb' => ?_⟩
  · rw [frCells_len _ _ (by simp [hb])]
    simp
    omega
  · obtain ⟨g', off', e, hg, hc⟩ := hr.2 (by omega)
    injection e with e
    injection e with e1 e2
    subst e1 e2
    refine ⟨g, off + 2, rfl, hg, fun j u hu => ?_⟩
    rcases frCells_drop1 (l.take m) (bs.take m) with h2 | h2
    · rw [h2, List.getElem?_drop, frCells_take, List.getElem?_take] at hu
      split at hu
      · have := hc _ _ hu
        rw [show off + 2 + j = off + (2 + j) by omega]
        exact this
      · cases hu
    · exact absurd (by simp [hb]) h2
  · rw [List.getElem?_drop, List.getElem?_take] at hf hb'
    split at hf
    · rename_i hlt
      rw [if_pos hlt] at hb'
      exact he _ f b hf hb'
    · cases hf
theorem FrRd.nil (w : World) (B : Nat) (A : Option Addr) : FrRd w B A 0 [] := ⟨rfl, [], rfl, Rd.nil, by simp⟩
theorem FrRd.more {w : World} {B C : Nat} {A : Option Addr} {n : Nat} {fs : List Fr} (h : FrRd w B A n fs) (hC : B ≤ C) : FrRd w C A n fs := by
  obtain ⟨hn, bs, h1, h2, h3⟩ := h
  exact ⟨hn, bs, h1, h2.more hC, fun i f b hf hb => by obtain ⟨Ab, cb, e, hr, hm⟩ := h3 i f b hf hb; exact ⟨Ab, cb, e, hr.more hC, hm⟩⟩

def VOk (r : List Cell.Val) : Prop := ∀ v ∈ r, v.s.size ≤ maxLen ∧ -9223372036854775808 ≤ v.n ∧ v.n ≤ 9223372036854775807
/-- A row of rows of the call's own. -/
def RrOwn (w : World) (lo : Nat) (v : Value) (rs : List (List Cell.Val)) : Prop :=
  ∃ bs : List Value, bs.length = rs.length ∧ w.ownsRow lo 67 1 v rs.length bs ∧
    ∀ (i : Nat) (r : List Cell.Val) (b : Value), rs[i]? = some r → bs[i]? = some b → w.ownsRow lo 83 3 b r.length (vcells r) ∧ VOk r ∧ r.length ≤ 4611686018427387904
theorem RrOwn.nil (w : World) (lo : Nat) : RrOwn w lo (.slice none 0 0) [] := ⟨[], rfl, own_nil _ _ _ _, by simp⟩
theorem RrOwn.form {w : World} {lo : Nat} {v : Value} {rs : List (List Cell.Val)} (h : RrOwn w lo v rs) : ∃ A c, v = .slice A rs.length c := by
  obtain ⟨bs, h1, h2, _⟩ := h
  exact own_sl h2
theorem RrOwn.below {w w' : World} {lo : Nat} {v : Value} {rs : List (List Cell.Val)} (h : RrOwn w lo v rs) (hb : Below w.heap.size w w') : RrOwn w' lo v rs := by
  obtain ⟨bs, h1, h2, h3⟩ := h
  exact ⟨bs, h1, own_below h2 hb, fun i r b hr hb' => by obtain ⟨g1, g2⟩ := h3 i r b hr hb'; exact ⟨own_below g1 hb, g2⟩⟩
theorem RrOwn.agree {w w' : World} {lo : Nat} {v : Value} {rs : List (List Cell.Val)} (h : RrOwn w lo v rs) (ha : ∀ k, lo ≤ k → k < w.heap.size → w'.heap[k]? = w.heap[k]?) : RrOwn w' lo v rs := by
  obtain ⟨bs, h1, h2, h3⟩ := h
  refine ⟨bs, h1, own_agree h2 (fun k hk => ha k (h2.lt k hk).1 (h2.lt k hk).2), fun i r b hr hb' => ?_⟩
  obtain ⟨g1, g2⟩ := h3 i r b hr hb'
  exact ⟨own_agree g1 (fun k hk => ha k (g1.lt k hk).1 (g1.lt k hk).2), g2⟩
theorem RrOwn.rd {w : World} {lo : Nat} {A : Option Addr} {n c : Nat} {rs : List (List Cell.Val)} (h : RrOwn w lo (.slice A n c) rs) (hn : n = rs.length) : Rrs w w.heap.size A n rs := by
  subst hn
  obtain ⟨bs, h1, h2, h3⟩ := h
  refine ⟨rfl, bs, h1, Rd.own h2, fun i r b hr hb' => ?_⟩
  obtain ⟨g1, g2, g3⟩ := h3 i r b hr hb'
  obtain ⟨Ar, cr, rfl⟩ := own_sl g1
  exact ⟨Ar, cr, rfl, ⟨Rd.own g1, g2⟩, by omega⟩
theorem RrOwn.okA {w : World} {lo : Nat} {v : Value} {rs : List (List Cell.Val)} (h : RrOwn w lo v rs) : ∀ r ∈ rs, VOk r := by
  obtain ⟨bs, h1, h2, h3⟩ := h
  intro r hr
  obtain ⟨i, hi, rfl⟩ := List.getElem_of_mem hr
  exact (h3 i _ _ (List.getElem?_eq_getElem hi) (List.getElem?_eq_getElem (by omega))).2.1
theorem infoRow : (Try.prog.info? 67).map (fun i => (i.zero, i.size, i.bytes)) = some (some (.slice none 0 0), 1, 24) := by kernel_rfl
/-- 'rows = append(rows, r)'. -/
theorem wpList_appR {ops : Array Oper} {rest : List Oper} {o : Oper} {a : Act} {Q : Exit → Act → World → Prop} {w0 : World} {cs : Array Value} {mk : Nat × Nat} (hgd : o.guard = none) (s x : Operand)
    (ho : o.op = .call { callee := .builtin .append, args := #[s, x], argTypes := #[48, 48] })
    (lo : Nat) (v : Value) (rs : List (List Cell.Val)) (hs : a.eval s = v) (hR : RrOwn w0 lo v rs)
    (c : Nat) (r : List Cell.Val) (b : Value) (hb : w0.ownsRow lo 83 3 b r.length (vcells r)) (hv : VOk r) (hl : r.length ≤ 4611686018427387904) (hx : a.eval x = .slice (some ⟨w0.heap.size, 0, none⟩) 1 c) (hcs : cs = #[b]) (hm : (rs.length + 1) * 24 ≤ 140737488355328) (hlo : lo ≤ w0.heap.size)
    (h : ∀ v' w', RrOwn w' lo v' (rs ++ [r]) → Below lo w0 w' → (∀ (base : Nat) (e : TypeId) (size : Nat) (v2 : Value) (n : Nat) (xs : List Value), w0.ownsRow base e size v2 n xs → e ≠ 67 → w'.ownsRow base e size v2 n xs) → wpList Try.prog ops Q rest (a.put o.dst v') w') : wpList Try.prog ops Q (o :: rest) a (w0.alloc (.cells cs 67 mk)) := by
  subst hcs
  obtain ⟨i0, hi0, hz0, hz1, hz2⟩ := info_parts infoRow
  obtain ⟨bs, h1, h2, h3⟩ := hR
  obtain ⟨Ar, cr, rfl⟩ := own_sl hb
  have hr : Rd (w0.alloc (.cells #[Value.slice Ar r.length cr] 67 mk)) (w0.heap.size + 1) 1 (some ⟨w0.heap.size, 0, none⟩) 1 [Value.slice Ar r.length cr] := Rd.lit w0 67 [Value.slice Ar r.length cr] mk
  refine wpList_append_rd (w0.alloc _) hgd s x _ ho lo 67 i0 _ 1 24 Try.underlying48 hi0 hz0 hz1 hz2 rfl (by omega) v rs.length _ hs (h2.alloc _) _ _ 1 c _ hx hr (by simp; rfl) (by unfold maxLen; omega) hm (by simp; omega) ?_
  intro v' w' g1 g2 g3
  have keep : ∀ (b : Value) (n : Nat) (xs : List Value), w0.ownsRow lo 83 3 b n xs → w'.ownsRow lo 83 3 b n xs := fun b n xs hh => (hh.alloc (.cells #[Value.slice Ar r.length cr] 67 mk)).kept g3 (own_own_ne (hh.alloc (.cells #[Value.slice Ar r.length cr] 67 mk)) (h2.alloc (.cells #[Value.slice Ar r.length cr] 67 mk)) (by decide))
  refine h v' w' ⟨bs ++ [.slice Ar r.length cr], by simp [h1], by rw [List.length_append]; exact g1, fun i r' b' hr' hb' => ?_⟩ (((Below.refl _ _).alloc hlo _).trans g2) (fun base e size v2 n xs hh hne => (hh.alloc (.cells #[Value.slice Ar r.length cr] 67 mk)).kept g3 (own_own_ne (hh.alloc (.cells #[Value.slice Ar r.length cr] 67 mk)) (h2.alloc (.cells #[Value.slice Ar r.length cr] 67 mk)) hne))
  by_cases hi : i < rs.length
  · rw [List.getElem?_append_left hi] at hr'
    rw [List.getElem?_append_left (by omega)] at hb'
    obtain ⟨k1, k2⟩ := h3 i r' b' hr' hb'
    exact ⟨keep _ _ _ k1, k2⟩
  · have hi' : i = rs.length := by
      rcases Nat.lt_or_ge i (rs ++ [r]).length with h | h
      · simp at h; omega
      · rw [List.getElem?_eq_none h] at hr'; cases hr'
    subst hi'
    have e1 : (rs ++ [r])[rs.length]? = some r := by simp
    have e2 : (bs ++ [Value.slice Ar r.length cr])[rs.length]? = some (.slice Ar r.length cr) := by rw [← h1]; simp
    rw [e1] at hr'
    rw [e2] at hb'
    injection hr' with hr'
    injection hb' with hb'
    subst hr' hb'
    exact ⟨keep _ _ _ hb, hv, hl⟩
/-- What Read tells: the answer whose frames these are, or that there is none. -/
def RdE (w : World) (l : List Fr) (e : Ending) (w' : World) : Prop :=
  ∃ (An : Option Addr) (cn : Nat) (ns : List ByteArray) (Ar : Option Addr) (cr : Nat) (rs : List (List Cell.Val)) (cnt en : Int), e = .returned (.tuple #[.agg #[.slice An ns.length cn, .slice Ar rs.length cr, .int .i64 cnt], .int .i64 en]) ∧
    Rt w' w'.heap.size An ns.length ns ∧ Rrs w' w'.heap.size Ar rs.length rs ∧ Below w.heap.size w w' ∧ ((Wire.Says ⟨ns, rs, cnt⟩ l ∧ en = 0) ∨ ((∀ a, ¬ Wire.Says a l) ∧ ns = [] ∧ rs = [] ∧ cnt = 0 ∧ en = 390))
theorem RdE.no {w w' : World} {l : List Fr} (h : ∀ a, ¬ Wire.Says a l) (hb : Below w.heap.size w w') : RdE w l (.returned (.tuple #[.agg #[.slice none 0 0, .slice none 0 0, .int .i64 0], .int .i64 390])) w' :=
  ⟨none, 0, [], none, 0, [], 0, 390, rfl, ⟨Rd.nil, by simp⟩, Rrs.nil _ _ _, hb, .inr ⟨h, rfl, rfl, rfl, rfl⟩⟩
end Go.Proofs.Ytnieenlnpnaamaa
