/-
  An append onto a row of cells of the call's own leaves the elder slice as it was; a list of cells put behind another. Conditions: none.
-/
import Derived.Test.YtpoilndlfbmhgaaReadP
namespace Go.Proofs.Ytpoilndlfbmhgaa
open Go.RowKit

section
variable {P : Program} (w : World)
theorem run_append_keep (base : Nat) (t ty e : TypeId) (i : TypeInfo) (z : Value) (size bytes : Nat) (ht : P.underlying t = some (.slice e)) (hi : P.info? e = some i) (hz : i.zero = some z)
    (hsize : i.size = size) (hby : i.bytes = bytes) (hzs : z.cells.size = size) (hsz : 0 < size)
    (v : Value) (n : Nat) (xs : List Value) (hown : w.ownsRow base e size v n xs)
    (B : Nat) (A : Option Addr) (m c : Nat) (news : List Value) (hr : Rd w B size A m news) (h1 : ∀ u ∈ news, u.oneCell' = true)
    (h63 : n + m ≤ maxLen) (hbytes : (n + m) * bytes ≤ 140737488355328) (hbase : base ≤ w.heap.size) :
    ∃ v' w', (Builtin.append_ #[t, t] ty #[v, .slice A m c]).run P w = .ok v' w' ∧ w'.ownsRow base e size v' (n + m) (xs ++ news) ∧ w.grownBy w' v.ownBlock ∧
      (∀ (u : Value) (ys : List Value), w.ownsRow base e size u n ys → w'.ownsRow base e size u n ys) := by
  have weak : ∀ {w' : World} {row : Option Nat}, w.grownBy w' none → w.grownBy w' row := fun h => ⟨h.os, h.tape, h.output, h.size, fun k hk _ => h.block k hk (by simp)⟩
  have stay : ∀ {w' : World}, w.grownBy w' none → ∀ (u : Value) (ys : List Value), w.ownsRow base e size u n ys → w'.ownsRow base e size u n ys := fun h u ys hu => hu.kept h (by cases hv : u.ownBlock <;> simp)
  rcases A with _ | ad
  · have hm : m = 0 := by
      rcases Nat.eq_zero_or_pos m with h0 | h0
      · exact h0
      · obtain ⟨b, off, h, _⟩ := hr.2 h0
        cases h
    subst hm
    have hn : news = [] := List.eq_nil_of_length_eq_zero (by simpa using hr.1)
    subst hn
    exact ⟨v, w, run_append_of_nil w base t ty e i size ht hi v n xs hown c, by simpa using hown, World.grownBy.refl w _, fun u ys h => h⟩
  · have hcells : ∀ j u, news[j]? = some u → w.cell? (ad.add j) = some u := by
      intro j u hu
      rcases Nat.eq_zero_or_pos m with h0 | h0
      · subst h0
        have hn : news = [] := List.eq_nil_of_length_eq_zero (by simpa using hr.1)
        subst hn
        simp at hu
      · obtain ⟨b, off, h, _, hc⟩ := hr.2 h0
        injection h with h
        subst h
        rw [addr_add]
        exact hc j u hu
    rcases hown.2 with ⟨rfl, rfl⟩ | ⟨g, cap, cur, rfl, hbg, hg, hnc, hcm, hcs, htake⟩
    · obtain ⟨v', w', hrun, h2, h3, _, h5⟩ := run_append_own_at (P := P) w base t ty e i z size bytes ht hi hz hsize hby hzs hsz _ 0 xs hown ad m c news hr.1 hcells h1 h63 hbytes hbase
      exact ⟨v', w', hrun, h2, h3, stay h3⟩
    · by_cases hroom : n + m ≤ cap
      · have hfc := run_firstCells_some (P := P) w i.size m ad m c news (by rw [hsize]; exact hr.1) hcells
        have hnl : news.length = m * size := hr.1
        have hfit : n * size + news.length ≤ cur.size := by
          rw [hnl, hcs, ← Nat.add_mul]
          exact Nat.mul_le_mul_right _ hroom
        have hst := run_storeCells_at P g (n * size) e news 0 cur w hg (by simpa using hfit) h1
        simp only [Nat.add_zero] at hst
        have hlen : (xs ++ news).length = (n + m) * size := by rw [List.length_append, hown.1, hnl, Nat.add_mul]
        have hcl : cur.toList.length = cap * size := by simpa using hcs
        have hszn : ((cur.toList.take (n * size) ++ news ++ cur.toList.drop (n * size + news.length)).toArray).size = cap * size := by
          simp only [List.size_toArray, List.length_append, List.length_take, List.length_drop, hcl]
          omega
        have hnew := setRow_heap w g cur (cur.toList.take (n * size) ++ news ++ cur.toList.drop (n * size + news.length)).toArray e (0, 0) hg
        have hxl : xs.length = n * size := hown.1
        refine ⟨.slice (some ⟨g, 0, none⟩) (n + m) cap, w.setRow g (cur.toList.take (n * size) ++ news ++ cur.toList.drop (n * size + news.length)).toArray, ?_, ⟨hlen, .inr ⟨g, cap, _, rfl, hbg, hnew, hroom, hcm, hszn, ?_⟩⟩, ⟨rfl, rfl, rfl, by simp, fun j _ hj => setRow_other w g j _ (fun e => hj (by simp [Value.ownBlock, e]))⟩, ?_⟩
        · rw [hsize] at hfc
          simp [Builtin.append_, run_underlying ht, sizeOf, typeInfo, hi, hsize, Builtin.lenOf, hroom, hfc, Addr.add_lit, hst]
        · rw [htake, ← hlen]
          exact List.take_left
        · intro u ys hu
          rcases hu.2 with h2 | ⟨g', cap', cur', rfl, hbg', hg', hnc', hcm', hcs', htake'⟩
          · exact ⟨hu.1, .inl h2⟩
          · by_cases hgg : g' = g
            · subst hgg
              rw [hg] at hg'
              injection hg' with hg'
              injection hg' with hg' _ _
              subst hg'
              have hcc : cap' = cap := by
                rw [hcs] at hcs'
                exact (Nat.eq_of_mul_eq_mul_right hsz hcs').symm
              subst hcc
              refine ⟨hu.1, .inr ⟨g', cap', _, rfl, hbg', hnew, hnc', hcm', hszn, ?_⟩⟩
              rw [← htake', htake]
              rw [List.append_assoc]
              exact List.take_left' hxl
            · exact hu.kept (row := some g) ⟨rfl, rfl, rfl, by simp, fun j _ hj => setRow_other w g j _ (fun e => hj (by rw [e]))⟩ (.inr (by simp [Value.ownBlock, hgg]))
      · have holds : ∀ j u, xs[j]? = some u → w.cell? ((⟨g, 0, none⟩ : Addr).add j) = some u := hown.cells (g := g) rfl
        obtain ⟨v', w', hrun, h2, h3⟩ := run_append_arg_grows (P := P) w t ty e i z size bytes ht hi hz hsize hby hzs hsz ⟨g, 0, none⟩ n cap xs hown.1 holds ad m c news hr.1 hcells (by omega) h63 hbytes
        exact ⟨v', w', hrun, own_base h2 hbase, weak h3, stay h3⟩
end
theorem Bo.up {w : World} {lo k k' : Nat} {b : Value} {l : List UInt8} (h : Bo w lo k b l) (hk : k ≤ k') (hl : k' ≤ lo) : Bo w lo k' b l := by
  rcases h with h | ⟨h, _⟩
  · exact .inl h
  · exact .inr ⟨h.more hk, hl⟩
theorem CeOwn.up {w : World} {lo k k' : Nat} {v : Value} {cs : List Pag.Ce} (h : CeOwn w lo k v cs) (hk : k ≤ k') (hl : k' ≤ lo) : CeOwn w lo k' v cs := by
  obtain ⟨bs, h1, h2, h3⟩ := h
  exact ⟨bs, h1, h2, fun i c b hc hb => ⟨(h3 i c b hc hb).1.up hk hl, (h3 i c b hc hb).2.up hk hl⟩⟩
/-- 'append(a, b...)' of cells. -/
theorem run_appCs {w : World} {ty : TypeId} (lo k : Nat) (v : Value) (cs ds : List Pag.Ce) (hF : CeOwn w lo k v cs) (A : Option Addr) (m c : Nat) (hd : CeRd w k A m ds) (hk : k ≤ lo) (hm : (cs.length + m) * 48 ≤ 140737488355328) (hlo : lo ≤ w.heap.size) :
    ∃ v' w', (Builtin.append_ #[23, 23] ty #[v, .slice A m c]).run Try.prog w = .ok v' w' ∧ CeOwn w' lo k v' (cs ++ ds) ∧ Below lo w w' ∧ (∀ (u : Value) (es : List Pag.Ce), es.length = cs.length → CeOwn w lo k u es → CeOwn w' lo k u es) := by
  obtain ⟨iC, hiC, hz0, hz1, hz2⟩ := info_parts infoC
  obtain ⟨bs, hbl, hrow, hbod⟩ := hF
  obtain ⟨hmd, bd, hbdl, hrd, hbdb⟩ := hd
  have hone : ∀ u ∈ prs bd, u.oneCell' = true := by
    have : ∀ (b : Value × Value), b ∈ bd → b.1.oneCell' = true ∧ b.2.oneCell' = true := fun b hb => by
      obtain ⟨i, hi, rfl⟩ := List.mem_iff_getElem.1 hb
      obtain ⟨⟨A1, c1, e1, _⟩, ⟨A2, c2, e2, _⟩⟩ := hbdb i _ _ (List.getElem?_eq_getElem (by omega)) (List.getElem?_eq_getElem hi)
      rw [e1, e2]
      exact ⟨rfl, rfl⟩
    clear hbdl hrd hbdb
    induction bd with
    | nil => intro u hu; cases hu
    | cons b r ih =>
      intro u hu
      simp only [prs, List.mem_cons] at hu
      have hb := this b List.mem_cons_self
      rcases hu with rfl | rfl | hu
      · exact hb.1
      · exact hb.2
      · exact ih (fun b hb => this b (List.mem_cons_of_mem _ hb)) u hu
  obtain ⟨v', w', hrun, h2, h3, h4⟩ := run_append_keep (P := Try.prog) w lo 23 ty 41 iC _ 2 48 Try.underlying23 hiC hz0 hz1 hz2 rfl (by omega) v cs.length (prs bs) hrow k A m c (prs bd) hrd hone (by unfold maxLen; omega) hm hlo
  have hb : Below lo w w' := (Below.refl _ _).grown h3 hlo fun j hj => (hrow.lt j hj).1
  have keep : ∀ (b : Value) (l : List UInt8), Bo w lo k b l → Bo w' lo k b l := fun b l hb' => hb'.grown hrow h3 hb
  refine ⟨v', w', hrun, ⟨bs ++ bd, by simp [hbl, hbdl], by rw [prs_append, List.length_append, ← hmd]; exact h2, fun i f' b' hf hb' => ?_⟩, hb, fun u es hes hu => ?_⟩
  · by_cases hi : i < cs.length
    · rw [List.getElem?_append_left hi] at hf
      rw [List.getElem?_append_left (by omega)] at hb'
      obtain ⟨g1, g2⟩ := hbod i f' b' hf hb'
      exact ⟨keep _ _ g1, keep _ _ g2⟩
    · rw [List.getElem?_append_right (by omega)] at hf hb'
      rw [hbl] at hb'
      obtain ⟨g1, g2⟩ := hbdb _ f' b' hf hb'
      exact ⟨keep _ _ (.inr ⟨g1, hk⟩), keep _ _ (.inr ⟨g2, hk⟩)⟩
  · obtain ⟨cs2, c1, c2, c3⟩ := hu
    rw [hes] at c2
    refine ⟨cs2, c1, by rw [hes]; exact h4 u _ c2, fun i c b hc hb' => ⟨keep _ _ (c3 i c b hc hb').1, keep _ _ (c3 i c b hc hb').2⟩⟩
theorem exec_append {P : Program} {w w' : World} {o : Oper} {a : Act} {t : TypeId} {v y v' : Value} (s x : Operand) (ho : o.op = .call { callee := .builtin .append, args := #[s, x], argTypes := #[t, t] }) (hs : a.eval s = v) (hx : a.eval x = y)
    (hrun : (Builtin.append_ #[t, t] o.type #[v, y]).run P w = .ok v' w') : (execOp a.eval o).run P w = .ok (.value v') w' := by
  unfold execOp
  simp only [ho, resolve, invoke, builtin, Sem.run_bind, Sem.run_pure, Result.andThen_ok, List.map_toArray, List.map_cons, List.map_nil, hs, hx, hrun]
/-- All operations but j only make memory; j may turn what is the call's own, and keeps Φ. -/
def GrK (j h0 : Nat) (Φ : Fact) : Nat → World → World → Prop := fun i w w' => if i = j then Below h0 w w' ∧ ∀ u, Φ u w → Φ u w' else Below w.heap.size w w'
theorem GrK.turns {w0 : World} {j : Nat} {Φ : Fact} {l : List (Nat × Fact)} (hT : Stable (tab l)) (hk : ∀ i Ψ, i ≠ j → tab l i = some Ψ → ∀ v w w', Ψ v w → (Below w0.heap.size w w' ∧ ∀ u, Φ u w → Φ u w') → Ψ v w') : Turns false (GrK j w0.heap.size Φ) (Up w0) w0.heap.size (tab l) := by
  refine ⟨fun i w w' hs hr => ?_, fun i w w' hr => ?_, fun h => (by cases h), fun i k Ψ hik hk' v w w' hv hr => ?_⟩
  · unfold GrK at hr
    split at hr
    · exact Below.trans hs hr.1
    · exact Up.lives w0 _ _ hs hr
  · unfold GrK at hr
    split at hr
    · exact hr.1.size
    · exact hr.size
  · unfold GrK at hr
    split at hr
    · rename_i e
      subst e
      exact hk k Ψ (Ne.symm hik) hk' v w w' hv hr
    · exact hT k Ψ hk' v w w' hv hr
end Go.Proofs.Ytpoilndlfbmhgaa
