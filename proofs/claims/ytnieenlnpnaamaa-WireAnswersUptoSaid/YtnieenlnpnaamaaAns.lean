/-
  Words on memory for answers: a list of rows, a list of texts, an answer; frames that are put behind one another. Conditions: none.
-/
import Derived.Test.YtnieenlnpnaamaaRefCut
import Derived.Test.YtnieenlnpnaamaaAnsMath
import Derived.Test.YtnieenlnpnaamaaRefRead
import Derived.Test.YtnieenlnpnaamaaPut
import Derived.Deep.LoopGhost
import Derived.Deep.DeepCutAuto
namespace Go.Proofs.Ytnieenlnpnaamaa
open Go.RowKit

/-- A slice of rows, each a slice of values; all of it lies below B. -/
def Rrs (w : World) (B : Nat) (A : Option Addr) (n : Nat) (rs : List (List Cell.Val)) : Prop :=
  rs.length = n ∧ ∃ bs : List Value, bs.length = n ∧ Rd w B 1 A n bs ∧ ∀ (i : Nat) (r : List Cell.Val) (b : Value), rs[i]? = some r → bs[i]? = some b → ∃ Ar cr, b = .slice Ar r.length cr ∧ Rv w B Ar r.length r ∧ r.length ≤ 9223372036854775807
theorem Rrs.at {w : World} {B : Nat} {A : Option Addr} {n i : Nat} {rs : List (List Cell.Val)} (h : Rrs w B A n rs) (hi : i < n) :
    ∃ g off r Ar cr, A = some ⟨g, off, none⟩ ∧ g < B ∧ rs[i]? = some r ∧ w.cell? ⟨g, off + i, none⟩ = some (.slice Ar r.length cr) ∧ Rv w B Ar r.length r ∧ r.length ≤ 9223372036854775807 := by
  obtain ⟨hn, bs, h1, h2, h3⟩ := h
  obtain ⟨g, off, u, rfl, hg, hu, hc⟩ := h2.at1 hi
  have hr : rs[i]? = some (rs[i]'(by omega)) := List.getElem?_eq_getElem (by omega)
  obtain ⟨Ar, cr, rfl, hv, hm⟩ := h3 i _ _ hr hu
  exact ⟨g, off, _, Ar, cr, rfl, hg, hr, hc, hv, hm⟩
theorem Rrs.keep {w w' : World} {B : Nat} {A : Option Addr} {n : Nat} {rs : List (List Cell.Val)} (h : Rrs w B A n rs) (hk : ∀ p : Addr, p.block < B → w'.cell? p = w.cell? p) : Rrs w' B A n rs := by
  obtain ⟨hn, bs, h1, h2, h3⟩ := h
  exact ⟨hn, bs, h1, h2.keep hk, fun i r b hr hb => by obtain ⟨Ar, cr, e, hv, hm⟩ := h3 i r b hr hb; exact ⟨Ar, cr, e, hv.keep hk, hm⟩⟩
theorem Rrs.below {w w' : World} {B C : Nat} {A : Option Addr} {n : Nat} {rs : List (List Cell.Val)} (h : Rrs w B A n rs) (hb : Below C w w') (hC : B ≤ C) : Rrs w' B A n rs := h.keep fun _ hp => hb.cell (by omega)
theorem Rrs.more {w : World} {B C : Nat} {A : Option Addr} {n : Nat} {rs : List (List Cell.Val)} (h : Rrs w B A n rs) (hC : B ≤ C) : Rrs w C A n rs := by
  obtain ⟨hn, bs, h1, h2, h3⟩ := h
  exact ⟨hn, bs, h1, h2.more hC, fun i r b hr hb => by obtain ⟨Ar, cr, e, hv, hm⟩ := h3 i r b hr hb; exact ⟨Ar, cr, e, hv.more hC, hm⟩⟩
theorem Rrs.nil (w : World) (B : Nat) (A : Option Addr) : Rrs w B A 0 [] := ⟨rfl, [], rfl, Rd.nil, by simp⟩
theorem Rt.more {w : World} {B C n : Nat} {A : Option Addr} {ns : List ByteArray} (h : Rt w B A n ns) (hC : B ≤ C) : Rt w C A n ns := ⟨h.1.more hC, h.2⟩
theorem Rt.keep {w w' : World} {B n : Nat} {A : Option Addr} {ns : List ByteArray} (h : Rt w B A n ns) (hk : ∀ p : Addr, p.block < B → w'.cell? p = w.cell? p) : Rt w' B A n ns := ⟨h.1.keep hk, h.2⟩

theorem Rt.el {w : World} {B n k : Nat} {A : Option Addr} {ns : List ByteArray} (h : Rt w B A n ns) (hk : k < n) : ∃ b off s, A = some ⟨b, off, none⟩ ∧ b < B ∧ ns[k]? = some s ∧ s.size ≤ maxLen ∧ w.cell? ⟨b, off + k, none⟩ = some (.string s) := by
  obtain ⟨b, off, u, e, hb, hu, hc⟩ := h.1.at1 hk
  rw [List.getElem?_map] at hu
  cases hs : ns[k]? with
  | none => rw [hs] at hu; cases hu
  | some s =>
    rw [hs] at hu
    injection hu with hu
    subst hu
    exact ⟨b, off, s, e, hb, rfl, h.2 s (List.mem_of_getElem? hs), hc⟩
/-- Frames of the call's own, and an error's number. -/
def AE (w : World) (r : Nat × List Fr) (e : Ending) (w' : World) : Prop :=
  ∃ v', e = .returned (.tuple #[v', .int .i64 (r.1 : Int)]) ∧ FrOwn w' w.heap.size w'.heap.size v' r.2 ∧ Below w.heap.size w w'
theorem AE.err {w w' : World} {r : Nat × List Fr} (n : Nat) (h : r = (n, [])) (hb : Below w.heap.size w w') : AE w r (.returned (.tuple #[.slice none 0 0, .int .i64 (n : Int)])) w' := by
  subst h
  exact ⟨_, rfl, FrOwn.nil _ _ _, hb⟩

theorem AE.ok {w w' : World} {r : Nat × List Fr} {l : List Fr} {v : Value} (h : r = (0, l)) (hf : FrOwn w' w.heap.size w'.heap.size v l) (hb : Below w.heap.size w w') : AE w r (.returned (.tuple #[v, .int .i64 0])) w' := by
  subst h
  exact ⟨_, rfl, hf, hb⟩

/-- 'out = append(out, api.Frame{k, body})'. -/
theorem wpList_appF {ops : Array Oper} {rest : List Oper} {o : Oper} {a : Act} {Q : Exit → Act → World → Prop} {w0 : World} {cs : Array Value} {mk : Nat × Nat} (hgd : o.guard = none) (s x : Operand)
    (ho : o.op = .call { callee := .builtin .append, args := #[s, x], argTypes := #[26, 26] })
    (lo : Nat) (v : Value) (fs : List Fr) (hs : a.eval s = v) (hF : FrOwn w0 lo w0.heap.size v fs)
    (c : Nat) (f : Fr) (A : Option Addr) (n cb : Nat) (hn : n = f.2.length) (hbody : w0.ownsRow lo 5 1 (.slice A n cb) n (f.2.map B8)) (hx : a.eval x = .slice (some ⟨w0.heap.size, 0, none⟩) 1 c) (hcs : cs = #[.int .u8 (f.1.toNat : Int), .slice A n cb]) (hm : (fs.length + 1) * 32 ≤ 140737488355328) (hlo : lo ≤ w0.heap.size)
    (h : ∀ v' w', FrOwn w' lo w'.heap.size v' (fs ++ [f]) → Below lo w0 w' → wpList Try.prog ops Q rest (a.put o.dst v') w') : wpList Try.prog ops Q (o :: rest) a (w0.alloc (.cells cs 42 mk)) := by
  subst hcs hn
  obtain ⟨iF, hiF, hzF0, hzF1, hzF2⟩ := info_parts infoF
  obtain ⟨bs, hbl, hrow, hrlt, hbod⟩ := hF
  have hr : Rd (w0.alloc (.cells #[Value.int .u8 (f.1.toNat : Int), .slice A f.2.length cb] 42 mk)) (w0.heap.size + 1) 2 (some ⟨w0.heap.size, 0, none⟩) 1 [Value.int .u8 (f.1.toNat : Int), .slice A f.2.length cb] := by
    have := Rd.lit w0 42 [Value.int .u8 (f.1.toNat : Int), .slice A f.2.length cb] mk
    refine ⟨rfl, fun _ => ?_⟩
    exact this.2 (by show 0 < 2; omega)
  refine wpList_append_rd (w0.alloc _) hgd s x _ ho lo 42 iF _ 2 32 Try.underlying26 hiF hzF0 hzF1 hzF2 rfl (by omega) v fs.length (frCells fs bs) hs (hrow.alloc _) _ _ 1 c _ hx hr ?_ (by unfold maxLen; omega) hm (by simp; omega) ?_
  · intro u hu
    simp at hu
    rcases hu with rfl | rfl <;> rfl
  · intro v3 w3 hown3 hb3 hg3
    refine h v3 w3 ?_ (((Below.refl _ _).alloc hlo _).trans hb3)
    exact fr_snocG hbl hrow hbod (Below.refl _ _) hbody hown3 ((Below.refl _ _).alloc (Nat.le_refl _) _) hg3
theorem badA_eq (ns : List ByteArray) (rs : List (List Cell.Val)) (c : Int) : Wire.badA ⟨ns, rs, c⟩ = ((decide (0 < rs.length) && decide (ns.length = 0)) || decide (c < 0) || decide (2147483647 < c)) := by
  unfold Wire.badA
  cases rs <;> cases ns <;> simp
theorem txts_take {ns : List ByteArray} {k : Nat} {s : ByteArray} (h : ns[k]? = some s) : Wire.txts (ns.take (k + 1)) = Wire.txts (ns.take k) ++ (Cell.byteOf s.size :: s.data.toList) := by
  rw [List.take_add_one, h]
  exact Wire.txts_snoc _ _
theorem any_take {ns : List ByteArray} {k : Nat} {s : ByteArray} (h : ns[k]? = some s) (ha : (ns.take k).any (fun s => decide (24 < s.size)) = false) (hs : ¬ 24 < s.size) : (ns.take (k + 1)).any (fun s => decide (24 < s.size)) = false := by
  rw [List.take_add_one, h, List.any_append, ha]
  simpa using hs
theorem any_stop {ns : List ByteArray} {k : Nat} {s : ByteArray} (h : ns[k]? = some s) (hs : 24 < s.size) : ns.any (fun s => decide (24 < s.size)) = true := List.any_eq_true.2 ⟨s, List.mem_of_getElem? h, by simpa using hs⟩
theorem rowsF_stop (n : Nat) : ∀ (rs : List (List Cell.Val)) (k : Nat) (r : List Cell.Val) (e : Nat), rs[k]? = some r → (Wire.rowsF n (rs.take k)).1 = 0 → e ≠ 0 → (r.length ≠ n → e = 330) → (r.length = n → e = (Cell.row r).1) → Wire.rowsF n rs = (e, []) := by
  intro rs
  induction rs with
  | nil => intro k r e h; simp at h
  | cons q rs ih =>
    intro k r e h h0 he h1 h2
    unfold Wire.rowsF
    cases k with
    | zero =>
      simp only [List.getElem?_cons_zero, Option.some.injEq] at h
      subst h
      by_cases hl : q.length ≠ n
      · rw [if_pos hl, h1 hl]
      · rw [if_neg hl]
        have := h2 (by simpa using hl)
        rw [if_pos (by rw [← this]; exact he), ← this]
    | succ k =>
      rw [List.take_succ_cons] at h0
      unfold Wire.rowsF at h0
      split at h0
      · cases h0
      · rename_i hl
        split at h0
        · rename_i hq; exact absurd h0 hq
        · rename_i hq
          split at h0
          · rename_i hz; exact absurd h0 hz
          · rename_i hz
            rw [if_neg hl, if_neg hq]
            have := ih k r e (by simpa using h) (by simpa using hz) he h1 h2
            rw [this, if_pos he]
theorem rowsF_next (n : Nat) : ∀ (rs : List (List Cell.Val)) (k : Nat) (r : List Cell.Val), rs[k]? = some r → (Wire.rowsF n (rs.take k)).1 = 0 → r.length = n → (Cell.row r).1 = 0 → (Wire.rowsF n (rs.take (k + 1))).1 = 0 ∧ (Wire.rowsF n (rs.take (k + 1))).2 = (Wire.rowsF n (rs.take k)).2 ++ [(6, (Cell.row r).2)] := by
  intro rs k r h h0 h1 h2
  have h3 := Wire.rowsF_ok n _ h0
  have h4 : (Wire.rowsF n (rs.take (k + 1))).1 = 0 := Wire.rowsF_mk n _ fun r' hr' => by
    rw [List.take_add_one, h] at hr'
    rcases List.mem_append.1 hr' with hr' | hr'
    · exact h3.2 r' hr'
    · have : r' = r := by simpa using hr'
      subst this
      exact ⟨h1, h2⟩
  refine ⟨h4, ?_⟩
  rw [(Wire.rowsF_ok n _ h4).1, h3.1, List.take_add_one, h]
  simp
end Go.Proofs.Ytnieenlnpnaamaa
