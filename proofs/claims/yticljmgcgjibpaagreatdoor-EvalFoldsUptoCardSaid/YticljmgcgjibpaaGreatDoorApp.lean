/-
  Plain words on append onto a slice that is nil or the call's own, from a source that reads as a list of cells ('Rd'), nil let in. Conditions: none. No program is named here.
-/
import Derived.Test.YticljmgcgjibpaaGreatDoorMem
import Derived.RegionTactic
import Derived.OwnWalk
import Derived.Laws.CopyOwn
namespace Go.Proofs.YticljmgcgjibpaaGreatDoor
open Go.RowKit

theorem own_below {w w' : World} {base : Nat} {e : TypeId} {size : Nat} {v : Value} {n : Nat} {xs : List Value} (h : w.ownsRow base e size v n xs) (hb : Below w.heap.size w w') : w'.ownsRow base e size v n xs :=
  h.kept ⟨hb.os, hb.tape, hb.output, hb.size, fun i hi _ => hb.block i hi⟩ (row := none) (by cases hv : v.ownBlock <;> simp)
theorem own_nil (w : World) (base : Nat) (e : TypeId) (size : Nat) : w.ownsRow base e size (.slice none 0 0) 0 [] := World.ownsRow_nil w base e size
/-- A row of the call's own is also one of whoever counts from further down. -/
theorem own_base {w : World} {base base' : Nat} {e : TypeId} {size : Nat} {v : Value} {n : Nat} {xs : List Value} (h : w.ownsRow base e size v n xs) (hb : base' ≤ base) : w.ownsRow base' e size v n xs := by
  refine ⟨h.1, ?_⟩
  rcases h.2 with h2 | ⟨g, cap, cur, hv, hg, r⟩
  · exact .inl h2
  · exact .inr ⟨g, cap, cur, hv, by omega, r⟩
/-- What is owned, as a slice value written out. -/
theorem own_form {w : World} {base : Nat} {e : TypeId} {size : Nat} {v : Value} {n : Nat} {xs : List Value} (h : w.ownsRow base e size v n xs) : ∃ A cap, v = .slice A n cap ∧ (∀ g, v.ownBlock = some g → A = some ⟨g, 0, none⟩) ∧ n ≤ cap ∧ cap ≤ maxLen := by
  rcases h.2 with ⟨rfl, rfl⟩ | ⟨g, cap, cur, rfl, _, _, h1, h2, _⟩
  · exact ⟨none, 0, rfl, fun g hg => by simp [Value.ownBlock] at hg, by omega, by unfold maxLen; omega⟩
  · exact ⟨_, cap, rfl, fun g' hg => by simp [Value.ownBlock] at hg; subst hg; rfl, h1, h2⟩
theorem own_sl {w : World} {base : Nat} {e : TypeId} {size : Nat} {v : Value} {n : Nat} {xs : List Value} (h : w.ownsRow base e size v n xs) : ∃ A cap, v = .slice A n cap := by
  obtain ⟨A, cap, h, _⟩ := own_form h
  exact ⟨A, cap, h⟩
theorem own_pos {w : World} {base : Nat} {e : TypeId} {size : Nat} {v : Value} {n : Nat} {xs : List Value} (h : w.ownsRow base e size v n xs) (hn : 0 < n) : ∃ g cap, v = .slice (some ⟨g, 0, none⟩) n cap ∧ base ≤ g ∧ g < w.heap.size ∧ n ≤ cap ∧ cap ≤ 9223372036854775807 := by
  rcases h.2 with ⟨_, h0⟩ | ⟨g, cap, cur, hv, hb, hg, h1, h2, _⟩
  · omega
  · exact ⟨g, cap, hv, hb, lt_of_block hg, h1, by unfold maxLen at h2; omega⟩
theorem own_len {w : World} {base : Nat} {e : TypeId} {v : Value} {n : Nat} {l : List UInt8} (h : w.ownsRow base e 1 v n (l.map B8)) : l.length = n := by simpa using h.1
/-- '[:k]' of a row of the call's own. -/
theorem own_take {w : World} {base : Nat} {e : TypeId} {g n cap k : Nat} {l : List UInt8} (h : w.ownsRow base e 1 (.slice (some ⟨g, 0, none⟩) n cap) n (l.map B8)) (hk : k ≤ n) : w.ownsRow base e 1 (.slice (some ⟨g, 0, none⟩) k cap) k ((l.take k).map B8) := by
  have hl := own_len h
  refine ⟨by simp; omega, ?_⟩
  rcases h.2 with ⟨h2, _⟩ | ⟨g', cap', cur, hv, hg, hh, h1, h3, h4, h5⟩
  · cases h2
  · injection hv with e1 e2 e3
    injection e1 with e1
    injection e1 with e1
    subst e1 e3
    refine .inr ⟨g, cap, cur, rfl, hg, hh, by omega, h3, h4, ?_⟩
    rw [List.map_take, ← h5, List.take_take]
    congr 1
    omega

/-- 'b[k:]'. -/
theorem Rb.cut {w : World} {B : Nat} {A : Option Addr} {n : Nat} {l : List UInt8} {k cap : Nat} (h : Rb w B A n l) (hk : k ≤ n) (hc : n ≤ cap) : Rb w B (if cap = k then A else A.map (·.add k)) (n - k) (l.drop k) := by
  refine ⟨by simp [h.len], fun hn => ?_⟩
  obtain ⟨b, off, rfl, hb, hcell⟩ := h.2 (by omega)
  rw [if_neg (by omega)]
  refine ⟨b, off + k, by simp [addr_add], hb, fun j u hu => ?_⟩
  rw [Nat.add_assoc]
  exact hcell _ u (by rw [← hu, List.map_drop, List.getElem?_drop])
/-- A literal's block (under whatever mark). -/
theorem Rd.lit (w : World) (t : TypeId) (xs : List Value) (m : Nat × Nat := (0, 0)) : Rd (w.alloc (.cells xs.toArray t m)) (w.heap.size + 1) 1 (some ⟨w.heap.size, 0, none⟩) xs.length xs := by
  refine ⟨by simp, fun _ => ⟨w.heap.size, 0, rfl, by omega, fun j u hu => ?_⟩⟩
  have := cell_of_row (w.alloc (.cells xs.toArray t m)) w.heap.size j xs.toArray t m (heap_alloc_new w _)
  rw [Nat.zero_add, this]
  simpa using hu
theorem Rb.lit (w : World) (t : TypeId) (l : List UInt8) (m : Nat × Nat := (0, 0)) : Rb (w.alloc (.cells (l.map B8).toArray t m)) (w.alloc (.cells (l.map B8).toArray t m)).heap.size (some ⟨w.heap.size, 0, none⟩) l.length l := by
  have := Rd.lit w t (l.map B8) m
  rw [List.length_map] at this
  have e : (w.alloc (.cells (l.map B8).toArray t m)).heap.size = w.heap.size + 1 := by simp
  rw [e]
  exact this

/-- The same, the block's number spelt otherwise. -/
theorem Rb.litAt (w : World) (t : TypeId) (l : List UInt8) (m : Nat × Nat) (g : Nat) (hg : g = w.heap.size) : Rb (w.alloc (.cells (l.map B8).toArray t m)) (w.alloc (.cells (l.map B8).toArray t m)).heap.size (some ⟨g, 0, none⟩) l.length l := by
  subst hg
  exact Rb.lit w t l m

section
variable {P : Program} (w : World)
theorem run_append_of_nil (base : Nat) (t ty e : TypeId) (i : TypeInfo) (size : Nat) (ht : P.underlying t = some (.slice e)) (hi : P.info? e = some i)
    (v : Value) (n : Nat) (xs : List Value) (hown : w.ownsRow base e size v n xs) (c : Nat) : (Builtin.append_ #[t, t] ty #[v, .slice none 0 c]).run P w = .ok v w := by
  rcases hown.2 with ⟨rfl, rfl⟩ | ⟨g, cap, cur, rfl, _, _, hnc, _⟩
  · simp [Builtin.append_, run_underlying ht, sizeOf, typeInfo, hi, Builtin.lenOf, Builtin.firstCells]
  · simp [Builtin.append_, run_underlying ht, sizeOf, typeInfo, hi, Builtin.lenOf, Builtin.firstCells, hnc, storeCells]

theorem run_append_rd (base : Nat) (t ty e : TypeId) (i : TypeInfo) (z : Value) (size bytes : Nat) (ht : P.underlying t = some (.slice e)) (hi : P.info? e = some i) (hz : i.zero = some z)
    (hsize : i.size = size) (hby : i.bytes = bytes) (hzs : z.cells.size = size) (hsz : 0 < size)
    (v : Value) (n : Nat) (xs : List Value) (hown : w.ownsRow base e size v n xs)
    (B : Nat) (A : Option Addr) (m c : Nat) (news : List Value) (hr : Rd w B size A m news) (h1 : ∀ u ∈ news, u.oneCell' = true)
    (h63 : n + m ≤ maxLen) (hbytes : (n + m) * bytes ≤ 140737488355328) (hbase : base ≤ w.heap.size) :
    ∃ v' w', (Builtin.append_ #[t, t] ty #[v, .slice A m c]).run P w = .ok v' w' ∧ w'.ownsRow base e size v' (n + m) (xs ++ news) ∧ w.grownBy w' v.ownBlock ∧
      (v'.ownBlock = v.ownBlock ∨ v'.ownBlock = some w.heap.size) := by
  rcases A with _ | ad
  · have hm : m = 0 := by
      rcases Nat.eq_zero_or_pos m with h0 | h0
      · exact h0
      · obtain ⟨b, off, h, _⟩ := hr.2 h0
        cases h
    subst hm
    have hn : news = [] := List.eq_nil_of_length_eq_zero (by simpa using hr.1)
    subst hn
    exact ⟨v, w, run_append_of_nil w base t ty e i size ht hi v n xs hown c, by simpa using hown, World.grownBy.refl w _, .inl rfl⟩
  · have hcells : ∀ j u, news[j]? = some u → w.cell? (ad.add j) = some u := by
      intro j u hu
      rcases Nat.eq_zero_or_pos m with h0 | h0
      · subst h0
        have hn : news = [] := List.eq_nil_of_length_eq_zero (by simpa using hr.1)
        subst hn
        simp at hu
      · obtain ⟨b, off, h, _, hc⟩ := hr.2 h0
        injection h with h
        subst h
        rw [addr_add]
        exact hc j u hu
    obtain ⟨v', w', hrun, h2, h3, _, h5⟩ := run_append_own_at (P := P) w base t ty e i z size bytes ht hi hz hsize hby hzs hsz v n xs hown ad m c news hr.1 hcells h1 h63 hbytes hbase
    exact ⟨v', w', hrun, h2, h3, h5⟩

theorem wp_append_rd {o : Oper} {a : Act} {K : Act → World → Prop} {Q : Exit → Act → World → Prop} (s x : Operand) (t : TypeId)
    (ho : o.op = .call { callee := .builtin .append, args := #[s, x], argTypes := #[t, t] })
    (base : Nat) (e : TypeId) (i : TypeInfo) (z : Value) (size bytes : Nat) (ht : P.underlying t = some (.slice e)) (hi : P.info? e = some i) (hz : i.zero = some z)
    (hsize : i.size = size) (hby : i.bytes = bytes) (hzs : z.cells.size = size) (hsz : 0 < size)
    (v : Value) (n : Nat) (xs : List Value) (hs : a.eval s = v) (hown : w.ownsRow base e size v n xs)
    (B : Nat) (A : Option Addr) (m c : Nat) (news : List Value) (hx : a.eval x = .slice A m c) (hr : Rd w B size A m news) (h1 : ∀ u ∈ news, u.oneCell' = true)
    (h63 : n + m ≤ maxLen) (hbytes : (n + m) * bytes ≤ 140737488355328) (hbase : base ≤ w.heap.size)
    (h : ∀ v' w', w'.ownsRow base e size v' (n + m) (xs ++ news) → w.grownBy w' v.ownBlock → (v'.ownBlock = v.ownBlock ∨ v'.ownBlock = some w.heap.size) → K (a.put o.dst v') w') : o.wp P a w K Q := by
  obtain ⟨v', w', hrun, h2, h3, h4⟩ := run_append_rd (P := P) w base t o.type e i z size bytes ht hi hz hsize hby hzs hsz v n xs hown B A m c news hr h1 h63 hbytes hbase
  unfold Oper.wp execOp
  simp only [ho, resolve, invoke, builtin, Sem.run_bind, Sem.run_pure, Result.andThen_ok, List.map_toArray, List.map_cons, List.map_nil, hs, hx, hrun]
  exact h v' w' h2 h3 h4

/-- append in a plain region: the row that is grown is the call's own; what was below 'base' stays. -/
theorem wpList_append_rd {ops : Array Oper} {rest : List Oper} {o : Oper} {a : Act} {Q : Exit → Act → World → Prop} (hgd : o.guard = none) (s x : Operand) (t : TypeId)
    (ho : o.op = .call { callee := .builtin .append, args := #[s, x], argTypes := #[t, t] })
    (base : Nat) (e : TypeId) (i : TypeInfo) (z : Value) (size bytes : Nat) (ht : P.underlying t = some (.slice e)) (hi : P.info? e = some i) (hz : i.zero = some z)
    (hsize : i.size = size) (hby : i.bytes = bytes) (hzs : z.cells.size = size) (hsz : 0 < size)
    (v : Value) (n : Nat) (xs : List Value) (hs : a.eval s = v) (hown : w.ownsRow base e size v n xs)
    (B : Nat) (A : Option Addr) (m c : Nat) (news : List Value) (hx : a.eval x = .slice A m c) (hr : Rd w B size A m news) (h1 : ∀ u ∈ news, u.oneCell' = true)
    (h63 : n + m ≤ maxLen) (hbytes : (n + m) * bytes ≤ 140737488355328) (hbase : base ≤ w.heap.size)
    (h : ∀ v' w', w'.ownsRow base e size v' (n + m) (xs ++ news) → Below base w w' → w.grownBy w' v.ownBlock → wpList P ops Q rest (a.put o.dst v') w') : wpList P ops Q (o :: rest) a w :=
  wpList_plain hgd fun _ hK => wp_append_rd w s x t ho base e i z size bytes ht hi hz hsize hby hzs hsz v n xs hs hown B A m c news hx hr h1 h63 hbytes hbase fun v' w' h2 h3 _ => hK _ _ (h v' w' h2 ((Below.refl _ _).grown h3 hbase fun k hk => (hown.lt k hk).1) h3)

theorem step_append_rd {ops : Array Oper} {o : Oper} {a : Act} {K : Act → World → Prop} {Q : Exit → Act → World → Prop} {E : Prop} (hgd : o.guard = none) (s x : Operand) (t : TypeId)
    (ho : o.op = .call { callee := .builtin .append, args := #[s, x], argTypes := #[t, t] })
    (base : Nat) (e : TypeId) (i : TypeInfo) (z : Value) (size bytes : Nat) (ht : P.underlying t = some (.slice e)) (hi : P.info? e = some i) (hz : i.zero = some z)
    (hsize : i.size = size) (hby : i.bytes = bytes) (hzs : z.cells.size = size) (hsz : 0 < size)
    (v : Value) (n : Nat) (xs : List Value) (hs : a.eval s = v) (hown : w.ownsRow base e size v n xs)
    (B : Nat) (A : Option Addr) (m c : Nat) (news : List Value) (hx : a.eval x = .slice A m c) (hr : Rd w B size A m news) (h1 : ∀ u ∈ news, u.oneCell' = true)
    (h63 : n + m ≤ maxLen) (hbytes : (n + m) * bytes ≤ 140737488355328) (hbase : base ≤ w.heap.size)
    (h : ∀ v' w', w'.ownsRow base e size v' (n + m) (xs ++ news) → Below base w w' → w.grownBy w' v.ownBlock → K (a.put o.dst v') w') :
    if Region.wanted o (yielded ops a.tmps) = true then Oper.wp P o a w K Q else E := by
  have hw : Region.wanted o (yielded ops a.tmps) = true := by simp [Region.wanted, hgd]
  rw [if_pos hw]
  exact wp_append_rd w s x t ho base e i z size bytes ht hi hz hsize hby hzs hsz v n xs hs hown B A m c news hx hr h1 h63 hbytes hbase fun v' w' h2 h3 _ => h v' w' h2 ((Below.refl _ _).grown h3 hbase fun k hk => (hown.lt k hk).1) h3

/-- The types '[]byte' and 'byte' of a program. -/
def Bt (P : Program) (t e : TypeId) : Prop := P.underlying t = some (.slice e) ∧ (P.info? e).map (fun i => (i.zero, i.size, i.bytes)) = some (some (.int .u8 0), 1, 1)

/-- 'out = append(out, b...)', out a row of bytes of the call's own, b a slice that reads as bytes. -/
theorem wpList_app {ops : Array Oper} {rest : List Oper} {o : Oper} {a : Act} {Q : Exit → Act → World → Prop} {t e : TypeId} (hT : Bt P t e) (hgd : o.guard = none) (s x : Operand)
    (ho : o.op = .call { callee := .builtin .append, args := #[s, x], argTypes := #[t, t] })
    (base : Nat) (v : Value) (n : Nat) (l : List UInt8) (hs : a.eval s = v) (hown : w.ownsRow base e 1 v n (l.map B8))
    (B : Nat) (A : Option Addr) (m c : Nat) (ms : List UInt8) (hx : a.eval x = .slice A m c) (hr : Rb w B A m ms) (hbytes : n + m ≤ 140737488355328) (hbase : base ≤ w.heap.size)
    (h : ∀ v' w', w'.ownsRow base e 1 v' (n + m) ((l ++ ms).map B8) → Below base w w' → w.grownBy w' v.ownBlock → wpList P ops Q rest (a.put o.dst v') w') : wpList P ops Q (o :: rest) a w := by
  obtain ⟨i0, hi0, hz0, hz1, hz2⟩ := info_parts hT.2
  refine wpList_append_rd w hgd s x t ho base e i0 _ 1 1 hT.1 hi0 hz0 hz1 hz2 rfl (by omega) v n _ hs hown B A m c _ hx hr (B8_one ms) (by unfold maxLen; omega) (by omega) hbase ?_
  intro v' w' h1 h2 h3
  rw [← List.map_append] at h1
  exact h v' w' h1 h2 h3

/-- 'out = append(out, b0, b1)': the new bytes have just been laid in a block of their own. -/
theorem wpList_appL {ops : Array Oper} {rest : List Oper} {o : Oper} {a : Act} {Q : Exit → Act → World → Prop} {t e : TypeId} {w0 : World} {cs : Array Value} {mk : Nat × Nat} (hT : Bt P t e) (hgd : o.guard = none) (s x : Operand)
    (ho : o.op = .call { callee := .builtin .append, args := #[s, x], argTypes := #[t, t] })
    (base : Nat) (v : Value) (n : Nat) (l : List UInt8) (hs : a.eval s = v) (hown : w0.ownsRow base e 1 v n (l.map B8))
    (g m c : Nat) (ms : List UInt8) (hx : a.eval x = .slice (some ⟨g, 0, none⟩) m c) (hg : g = w0.heap.size) (hm : ms.length = m) (hcs : cs = (ms.map B8).toArray) (hbytes : n + m ≤ 140737488355328) (hbase : base ≤ w0.heap.size)
    (h : ∀ v' w', w'.ownsRow base e 1 v' (n + m) ((l ++ ms).map B8) → Below base w0 w' → (w0.alloc (.cells cs e mk)).grownBy w' v.ownBlock → wpList P ops Q rest (a.put o.dst v') w') : wpList P ops Q (o :: rest) a (w0.alloc (.cells cs e mk)) := by
  subst hg hcs hm
  have hr := Rb.lit w0 e ms mk
  refine wpList_app (w0.alloc _) hT hgd s x ho base v n l hs (hown.alloc _) _ _ _ c ms hx hr hbytes (by simp; omega) ?_
  intro v' w' h1 h2 h3
  exact h v' w' h1 (((Below.refl _ _).alloc hbase _).trans h2) h3

theorem splice_map (l : List UInt8) (off : Nat) (ms : List UInt8) : (splice l off ms).map B8 = splice (l.map B8) off (ms.map B8) := by
  simp [splice, List.map_take, List.map_drop]
/-- 'copy(out[off:], b)', out a row of bytes of the call's own. -/
theorem wpList_copyB {ops : Array Oper} {rest : List Oper} {o : Oper} {a : Act} {Q : Exit → Act → World → Prop} {t e : TypeId} (hT : Bt P t e) (hgd : o.guard = none) (d s : Operand)
    (ho : o.op = .call { callee := .builtin .copy, args := #[d, s], argTypes := #[t, t] })
    (base g n cap off : Nat) (l : List UInt8) (hown : w.ownsRow base e 1 (.slice (some ⟨g, 0, none⟩) n cap) n (l.map B8)) (hoff : off ≤ n)
    (dp : Option Addr) (dLen dCap : Nat) (hd : a.eval d = .slice dp dLen dCap) (hdl : dLen = n - off) (hdp : off < n → dp = some ⟨g, off, none⟩)
    (B : Nat) (A : Option Addr) (m c : Nat) (ms : List UInt8) (hs : a.eval s = .slice A m c) (hr : Rb w B A m ms)
    (h : ∀ w', w'.ownsRow base e 1 (.slice (some ⟨g, 0, none⟩) n cap) n ((splice l off (ms.take (n - off))).map B8) → Below base w w' → wpList P ops Q rest (a.put o.dst (goInt (ms.take (n - off)).length)) w') : wpList P ops Q (o :: rest) a w := by
  subst hdl
  obtain ⟨i0, hi0, hz0, hz1, hz2⟩ := info_parts hT.2
  rcases hown.2 with ⟨h2, _⟩ | ⟨g', cap', cur, hv, hg, hh, h1, h3, h4, h5⟩
  · cases h2
  · injection hv with e1 _ e3
    injection e1 with e1
    injection e1 with e1
    subst e1 e3
    have hll := own_len hown
    have hml := hr.len
    have hcl : (cur.toList.take n) = l.map B8 := by simpa using h5
    refine wpList_copy_splice hgd d s t t ho e hT.1 (by rw [hi0]; simp [hz1]) dp A (n - off) dCap m c hd hs g off cur.toList e (by simpa using hh) ((ms.take (n - off)).map B8) (by simp [hml, Nat.min_comm]) ?_ (by simp; omega) (B8_one _) base w (Below.refl _ _) hg ?_
    · intro hp
      simp at hp
      refine ⟨hdp (by omega), ?_⟩
      obtain ⟨b, bo, rfl, _, hc⟩ := hr.all (by omega)
      refine ⟨_, rfl, fun j v hj => ?_⟩
      rw [addr_add]
      rw [List.getElem?_map, List.getElem?_take] at hj
      split at hj
      · cases hm : ms[j]? with
        | none => rw [hm] at hj; cases hj
        | some x => rw [hm] at hj; injection hj with hj; rw [hc j x hm, ← hj]; rfl
      · cases hj
    · intro w' hg' hb'
      have := h w' ⟨by simp [splice]; omega, .inr ⟨g, cap, (splice cur.toList off ((ms.take (n - off)).map B8)).toArray, rfl, hg, hg'.out, h1, h3, by simp [splice]; omega, ?_⟩⟩ hb'
      · rw [List.length_map]; exact this
      · rw [splice_map, ← hcl]
        simp only [splice, Nat.mul_one]
        rw [List.take_append, List.take_append]
        simp only [List.length_take, List.length_map]
        have e1 : cur.toList.length = cap := by simpa using h4
        rw [List.take_take, List.take_of_length_le (l := List.map B8 (List.take (n - off) ms)) (by simp; omega)]
        congr 1
        · rw [List.take_take]; congr 1; omega
        · congr 1
          rw [List.drop_take]
          congr 1
          omega
/-- The same as an equation on the operation's run. -/
theorem run_copyB {t e : TypeId} (hT : Bt P t e) (ty : TypeId)
    (base g n cap off : Nat) (l : List UInt8) (hown : w.ownsRow base e 1 (.slice (some ⟨g, 0, none⟩) n cap) n (l.map B8)) (hoff : off ≤ n)
    (dp : Option Addr) (dLen dCap : Nat) (hdl : dLen = n - off) (hdp : off < n → dp = some ⟨g, off, none⟩)
    (B : Nat) (A : Option Addr) (m c : Nat) (ms : List UInt8) (hr : Rb w B A m ms) :
    ∃ w', (Builtin.copy_ #[t, t] ty #[.slice dp dLen dCap, .slice A m c]).run P w = .ok (goInt (ms.take (n - off)).length) w' ∧
      w'.ownsRow base e 1 (.slice (some ⟨g, 0, none⟩) n cap) n ((splice l off (ms.take (n - off))).map B8) ∧ Below base w w' := by
  subst hdl
  obtain ⟨i0, hi0, hz0, hz1, hz2⟩ := info_parts hT.2
  have hsz : (P.info? e).map (·.size) = some 1 := by rw [hi0]; simp [hz1]
  rcases hown.2 with ⟨h2, _⟩ | ⟨g', cap', cur, hv, hg, hh, h1, h3, h4, h5⟩
  · cases h2
  · injection hv with e1 _ e3
    injection e1 with e1
    injection e1 with e1
    subst e1 e3
    have hll := own_len hown
    have hml := hr.len
    have hcl : (cur.toList.take n) = l.map B8 := by simpa using h5
    by_cases h0 : (ms.take (n - off)).length = 0
    · have e0 : ms.take (n - off) = [] := List.eq_nil_of_length_eq_zero h0
      have hn0 : Nat.min m (n - off) = 0 := by simp [hml] at h0; show min m (n - off) = 0; omega
      refine ⟨w, ?_, ?_, Below.refl _ _⟩
      · rw [run_copy_none (P := P) w t t ty e dp A (n - off) dCap m c hT.1 hsz hn0, h0]
        rfl
      · rw [e0]
        have : splice l off [] = l := by simp [splice]
        rw [this]
        exact hown
    · have hpos : 0 < min (n - off) m := by simp [hml] at h0; omega
      obtain ⟨b, bo, rfl, _, hc⟩ := hr.all (by omega)
      rw [hdp (by omega)]
      have hrun := run_copy_row (P := P) w t t ty e g off (n - off) dCap ⟨b, bo, none⟩ m c cur e ((ms.take (n - off)).map B8) hT.1 hsz hh (by simp [hml, Nat.min_comm]) (fun j v hj => by
        rw [addr_add]
        rw [List.getElem?_map, List.getElem?_take] at hj
        split at hj
        · cases hm : ms[j]? with
          | none => rw [hm] at hj; cases hj
          | some x => rw [hm] at hj; injection hj with hj; rw [hc j x hm, ← hj]; rfl
        · cases hj) (by simp; omega) (B8_one _)
      rw [List.length_map] at hrun
      refine ⟨_, hrun, ?_, below_setRow (Below.refl _ _) hg _⟩
      refine ⟨by simp [splice]; omega, .inr ⟨g, cap, _, rfl, hg, setRow_heap w g _ _ e _ hh, h1, h3, by simp; omega, ?_⟩⟩
      rw [splice_map, ← hcl]
      simp only [splice, Nat.mul_one, List.append_assoc]
      rw [List.take_append, List.take_append]
      simp only [List.length_take, List.length_map]
      have e1 : cur.toList.length = cap := by simpa using h4
      rw [List.take_take, List.take_of_length_le (l := List.map B8 (List.take (n - off) ms)) (by simp; omega)]
      congr 1
      · rw [List.take_take]; congr 1; omega
      · congr 1
        rw [List.drop_take]
        congr 1
        omega
/-- The same inside a region that draws its order. -/
theorem step_copyB {ops : Array Oper} {o : Oper} {a : Act} {K : Act → World → Prop} {Q : Exit → Act → World → Prop} {E : Prop} {t e : TypeId} (hT : Bt P t e) (hgd : o.guard = none) (d s : Operand)
    (ho : o.op = .call { callee := .builtin .copy, args := #[d, s], argTypes := #[t, t] })
    (base g n cap off : Nat) (l : List UInt8) (hown : w.ownsRow base e 1 (.slice (some ⟨g, 0, none⟩) n cap) n (l.map B8)) (hoff : off ≤ n)
    (dp : Option Addr) (dLen dCap : Nat) (hd : a.eval d = .slice dp dLen dCap) (hdl : dLen = n - off) (hdp : off < n → dp = some ⟨g, off, none⟩)
    (B : Nat) (A : Option Addr) (m c : Nat) (ms : List UInt8) (hs : a.eval s = .slice A m c) (hr : Rb w B A m ms)
    (h : ∀ w', w'.ownsRow base e 1 (.slice (some ⟨g, 0, none⟩) n cap) n ((splice l off (ms.take (n - off))).map B8) → Below base w w' → K (a.put o.dst (goInt (ms.take (n - off)).length)) w') :
    if Region.wanted o (yielded ops a.tmps) = true then Oper.wp P o a w K Q else E := by
  have hw : Region.wanted o (yielded ops a.tmps) = true := by simp [Region.wanted, hgd]
  rw [if_pos hw]
  obtain ⟨w', hrun, h2, h3⟩ := run_copyB w hT o.type base g n cap off l hown hoff dp dLen dCap hdl hdp B A m c ms hr
  unfold Oper.wp execOp
  simp only [ho, resolve, invoke, builtin, Sem.run_bind, Sem.run_pure, Result.andThen_ok, List.map_toArray, List.map_cons, List.map_nil, hs, hd, hrun]
  exact h w' h2 h3
theorem own_blk_ne {w : World} {base : Nat} {e : TypeId} {size n : Nat} {v : Value} {xs : List Value} {g : Nat} {t : TypeId} {cs : Array Value} (h : w.ownsRow base e size v n xs) (hg : Blk w g t cs) (hne : e ≠ t) : v.ownBlock ≠ some g := by
  rcases h.2 with ⟨rfl, _⟩ | ⟨g', cap, cur, rfl, _, hh, _⟩
  · simp [Value.ownBlock]
  · intro he
    have : g' = g := by simpa [Value.ownBlock] using he
    subst this
    unfold Blk at hg
    rw [hh] at hg
    injection hg with hg
    injection hg with _ ht
    exact hne ht
end
/-- What is owned stays owned where its block is as it was. -/
theorem own_agree {w w' : World} {base : Nat} {e : TypeId} {size : Nat} {v : Value} {n : Nat} {xs : List Value} (h : w.ownsRow base e size v n xs) (ha : ∀ k, v.ownBlock = some k → w'.heap[k]? = w.heap[k]?) : w'.ownsRow base e size v n xs := by
  refine ⟨h.1, ?_⟩
  rcases h.2 with h2 | ⟨g, cap, cur, rfl, hg, hh, r⟩
  · exact .inl h2
  · exact .inr ⟨g, cap, cur, rfl, hg, by rw [ha g rfl]; exact hh, r⟩
end Go.Proofs.YticljmgcgjibpaaGreatDoor
