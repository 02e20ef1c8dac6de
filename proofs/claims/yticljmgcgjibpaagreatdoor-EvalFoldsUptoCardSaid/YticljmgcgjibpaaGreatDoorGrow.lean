/-
  The rule of XFlow, for a region in which new blocks are made too (variables that are boxed, literals): in whatever order they are made, each is a new block of its own. Conditions: none. No program is named here.
-/
import Derived.Test.YticljmgcgjibpaaGreatDoorFlow
import Derived.Below
import Derived.OneCell
namespace Go.Proofs.YticljmgcgjibpaaGreatDoor
open Go Go.RowKit

section
variable {P : Program} {ops : Array Oper} {md : Region.Mode} {S : World → Prop} {h0 : Nat}

/-- The blocks that were made: by which operation, at which number, what. -/
def Made := Nat → Option (Nat × Obj)
def Made.none : Made := fun _ => Option.none
def Made.add (m : Made) (i g : Nat) (o : Obj) : Made := fun j => if j = i then some (g, o) else m j
theorem Made.add_comm (m : Made) {i j : Nat} (h : i ≠ j) (g g' : Nat) (o o' : Obj) : (m.add i g o).add j g' o' = (m.add j g' o').add i g o := by
  funext k
  unfold Made.add
  by_cases h1 : k = j
  · subst h1; rw [if_pos rfl, if_neg (Ne.symm h), if_pos rfl]
  · rw [if_neg h1]
    by_cases h2 : k = i
    · subst h2; rw [if_pos rfl, if_pos rfl]
    · rw [if_neg h2, if_neg h2, if_neg h1]
/-- What holds of the world. -/
structure Grown (S : World → Prop) (h0 : Nat) (m : Made) (w : World) : Prop where
  s : S w
  big : h0 ≤ w.heap.size
  lies : ∀ i g o, m i = some (g, o) → w.heap[g]? = some o ∧ h0 ≤ g
  apart : ∀ i j g o o', m i = some (g, o) → m j = some (g, o') → i = j
/-- S lives on where the world only grows. -/
def Lives (S : World → Prop) : Prop := ∀ w w' : World, S w → Below w.heap.size w w' → S w'
theorem Grown.below {m : Made} {w w' : World} (hL : Lives S) (h : Grown S h0 m w) (hb : Below w.heap.size w w') : Grown S h0 m w' :=
  ⟨hL _ _ h.s hb, Nat.le_trans h.big hb.size, fun i g o hm => by
    obtain ⟨h1, h2⟩ := h.lies i g o hm
    exact ⟨(hb.block g (lt_of_block h1)).trans h1, h2⟩, h.apart⟩
theorem Grown.made {m : Made} {w : World} {i : Nat} {o : Obj} (hL : Lives S) (h : Grown S h0 m w) : Grown S h0 (m.add i w.heap.size o) (w.alloc o) := by
  have hb : Below w.heap.size w (w.alloc o) := (Below.refl _ _).alloc (Nat.le_refl _) o
  refine ⟨hL _ _ h.s hb, by simp; have := h.big; omega, fun j g o' hm => ?_, fun j k g o1 o2 hj hk => ?_⟩
  · unfold Made.add at hm
    split at hm
    · injection hm with hm
      injection hm with h1 h2
      subst h1 h2
      exact ⟨heap_alloc_new w _, h.big⟩
    · obtain ⟨h1, h2⟩ := h.lies j g o' hm
      exact ⟨(hb.block g (lt_of_block h1)).trans h1, h2⟩
  · unfold Made.add at hj hk
    split at hj
    · rename_i e1
      split at hk
      · rename_i e2
        omega
      · injection hj with hj
        injection hj with h1 _
        subst h1
        have := lt_of_block (h.lies k _ o2 hk).1
        omega
    · split at hk
      · injection hk with hk
        injection hk with h1 _
        subst h1
        have := lt_of_block (h.lies j _ o1 hj).1
        omega
      · exact h.apart j k g o1 o2 hj hk
/-- What a called function tells, of its arguments alone. -/
def Told := FuncId → Array Value → Value → Prop
def Told.One (T : Told) : Prop := ∀ f args v v', T f args v → T f args v' → v = v'
/-- What an operation does: it leaves v, and a world that has grown. -/
def GrowRun (P : Program) (T : Told) (w : World) (v : Value) : Result Next → Prop
  | .ok (.value u) w' => u = v ∧ Below w.heap.size w w'
  | .ok .skip w' => v = undef ∧ Below w.heap.size w w'
  | .ok (.enter f args) w' => T f args v ∧ w' = w ∧ Calls P f args w (fun e w'' => e = .returned v ∧ Below w.heap.size w w'')
  | _ => False
def YieldsG (P : Program) (ops : Array Oper) (T : Told) (S : World → Prop) (o : Oper) (v : Value) (a : Act) : Prop :=
  (Region.wanted o (yielded ops a.tmps) = true ∧ ∀ w, S w → GrowRun P T w v ((execOp a.eval o).run P w)) ∨
  (Region.wanted o (yielded ops a.tmps) = false ∧ v = undef)
/-- The value that tells a new block: a pointer, or a slice. -/
def shapeV : Option (Nat × Nat) → Nat → Value
  | none, g => .pointer (some ⟨g, 0, none⟩)
  | some (n, c), g => .slice (some ⟨g, 0, none⟩) n c
theorem shapeV_inj {s s' : Option (Nat × Nat)} {g g' : Nat} (h : shapeV s g = shapeV s' g') : s = s' ∧ g = g' := by
  match s, s', h with
  | none, none, h => simp [shapeV] at h; exact ⟨rfl, h⟩
  | none, some (_, _), h => simp [shapeV] at h
  | some (_, _), none, h => simp [shapeV] at h
  | some (n, c), some (n', c'), h => simp [shapeV] at h; obtain ⟨h1, h2, h3⟩ := h; subst h2 h3; exact ⟨rfl, h1⟩
/-- It makes a block, and tells its number. -/
def MakesG (P : Program) (ops : Array Oper) (S : World → Prop) (o : Oper) (V : Option (Nat × Nat)) (b : Obj) (a : Act) : Prop :=
  Region.wanted o (yielded ops a.tmps) = true ∧ ∀ w, S w → (execOp a.eval o).run P w = .ok (.value (shapeV V w.heap.size)) (w.alloc b)
theorem alloc_inj {w : World} {b b' : Obj} (h : w.alloc b = w.alloc b') : b = b' := by
  have h1 : (w.alloc b).heap[w.heap.size]? = some b := heap_alloc_new w b
  have h2 : (w.alloc b').heap[w.heap.size]? = some b' := heap_alloc_new w b'
  rw [h, h2] at h1
  injection h1 with h1
  exact h1.symm
theorem YieldsG.one {T : Told} (hT : T.One) {o : Oper} {v v' : Value} {a : Act} {w0 : World} (hS : S w0) (h : YieldsG P ops T S o v a) (h' : YieldsG P ops T S o v' a) : v = v' := by
  rcases h with ⟨hw, h⟩ | ⟨hw, rfl⟩
  · rcases h' with ⟨_, h'⟩ | ⟨hw', _⟩
    · have k := h w0 hS
      have k' := h' w0 hS
      generalize (execOp a.eval o).run P w0 = r at *
      cases r with
      | ok n w' =>
        cases n <;> simp only [GrowRun] at k k'
        case value u => exact k.1.symm.trans k'.1
        case skip => exact k.1.trans k'.1.symm
        case enter f args => exact hT _ _ _ _ k.1 k'.1
      | halt x w' => simp only [GrowRun] at k
    · rw [hw] at hw'; cases hw'
  · rcases h' with ⟨hw', _⟩ | ⟨_, rfl⟩
    · rw [hw] at hw'; cases hw'
    · rfl
theorem MakesG.one {o : Oper} {V V' : Option (Nat × Nat)} {b b' : Obj} {a : Act} {w0 : World} (hS : S w0) (h : MakesG P ops S o V b a) (h' : MakesG P ops S o V' b' a) : V = V' ∧ b = b' := by
  have k := (h.2 w0 hS).symm.trans (h'.2 w0 hS)
  injection k with k1 k2
  injection k1 with k1
  exact ⟨(shapeV_inj k1).1, alloc_inj k2⟩
theorem yields_makes {T : Told} {o : Oper} {v : Value} {V : Option (Nat × Nat)} {b : Obj} {a : Act} {w0 : World} (hL : Lives S) (hS : S w0) (h : YieldsG P ops T S o v a) (h' : MakesG P ops S o V b a) : False := by
  rcases h with ⟨_, h⟩ | ⟨hw, _⟩
  · have hS1 : S (w0.alloc b) := hL _ _ hS ((Below.refl _ _).alloc (Nat.le_refl _) b)
    have k := h w0 hS
    have k1 := h (w0.alloc b) hS1
    rw [h'.2 w0 hS] at k
    rw [h'.2 _ hS1] at k1
    simp only [GrowRun] at k k1
    have := (shapeV_inj (k.1.trans k1.1.symm)).2
    simp at this
  · rw [h'.1] at hw; cases hw
theorem YieldsG.of_same {T : Told} {o : Oper} {v : Value} {a a' : Act} (hy : YieldsG P ops T S o v a) (he : execOp a'.eval o = execOp a.eval o)
    (hw : Region.wanted o (yielded ops a'.tmps) = Region.wanted o (yielded ops a.tmps)) : YieldsG P ops T S o v a' := by
  unfold YieldsG at *
  rw [he, hw]
  exact hy
theorem MakesG.of_same {o : Oper} {V : Option (Nat × Nat)} {b : Obj} {a a' : Act} (hy : MakesG P ops S o V b a) (he : execOp a'.eval o = execOp a.eval o)
    (hw : Region.wanted o (yielded ops a'.tmps) = Region.wanted o (yielded ops a.tmps)) : MakesG P ops S o V b a' := by
  unfold MakesG at *
  rw [he, hw]
  exact hy
/-- One step, whichever kind. -/
def stepG (P : Program) (ops : Array Oper) (T : Told) (S : World → Prop) (i : Nat) (o : Oper) (K : Act → Made → Prop) (a : Act) (m : Made) : Prop :=
  (∃ v, YieldsG P ops T S o v a ∧ K (a.put o.dst v) m) ∨ (∃ V b, MakesG P ops S o V b a ∧ ∀ g, K (a.put o.dst (shapeV V g)) (m.add i g b))
def grOp (P : Program) (ops : Array Oper) (T : Told) (S : World → Prop) (i : Nat) (K : Act → Made → Prop) (a : Act) (m : Made) : Prop :=
  match ops[i]? with
  | none => K a m
  | some o => stepG P ops T S i o K a m
theorem grOp_wp {T : Told} {Q : Exit → Act → World → Prop} (hL : Lives S) {i : Nat} {o : Oper} {a : Act} {m : Made} (hi : ops[i]? = some o) {K : Act → Made → Prop} (h : stepG P ops T S i o K a m) {w : World} (hS : Grown S h0 m w)
    {K' : Act → World → Prop} (hK : ∀ a' m' w', Grown S h0 m' w' → K a' m' → K' a' w') : wpOp P ops Q i K' a w := by
  unfold Go.wpOp
  simp only [hi]
  rcases h with ⟨v, hy, hk⟩ | ⟨V, b, ⟨hw, hv⟩, hk⟩
  · rcases hy with ⟨hw, hv⟩ | ⟨hw, rfl⟩
    · simp only [hw, if_true]
      refine .inl ?_
      have := hv w hS.s
      unfold Oper.wp
      generalize (execOp a.eval o).run P w = r at *
      cases r with
      | ok n w' =>
        cases n <;> simp only [GrowRun] at this
        case value u => obtain ⟨rfl, h2⟩ := this; exact hK _ _ _ (hS.below hL h2) hk
        case skip => obtain ⟨rfl, h2⟩ := this; exact hK _ _ _ (hS.below hL h2) hk
        case enter f args =>
          obtain ⟨-, rfl, h2⟩ := this
          refine Calls.mono h2 fun e w'' he => ?_
          obtain ⟨rfl, h3⟩ := he
          exact hK _ _ _ (hS.below hL h3) hk
      | halt x w' => simp only [GrowRun] at this
    · simp only [hw, Bool.false_eq_true, if_false]
      exact hK _ _ _ hS hk
  · simp only [hw, if_true]
    refine .inl ?_
    unfold Oper.wp
    rw [hv w hS.s]
    exact hK _ _ _ (hS.made hL) (hk _)
theorem grOp_mono {T : Told} {i : Nat} {K K' : Act → Made → Prop} {a : Act} {m : Made} (h : ∀ a m, K a m → K' a m) (hh : grOp P ops T S i K a m) : grOp P ops T S i K' a m := by
  unfold grOp at *
  split
  · rename_i hi
    simp only [hi] at hh
    exact h _ _ hh
  · rename_i o hi
    simp only [hi] at hh
    rcases hh with ⟨v, hv, hk⟩ | ⟨V, b, hv, hk⟩
    · exact .inl ⟨v, hv, h _ _ hk⟩
    · exact .inr ⟨V, b, hv, fun g => h _ _ (hk g)⟩
def wpAnyG (P : Program) (md : Region.Mode) (ops : Array Oper) (T : Told) (S : World → Prop) (n : Nat) (L : Array Bool → Act → Made → Prop) : Nat → Array Bool → Act → Made → Prop
  | 0, listed, a, m => L listed a m
  | f + 1, listed, a, m =>
    Region.ready md ops listed ≠ [] ∧ ∀ i ∈ Region.ready md ops listed, i < n ∧ grOp P ops T S i (wpAnyG P md ops T S n L f (listed.setIfInBounds i true)) a m
theorem wpAny_of_grow {T : Told} (hLv : Lives S) {n g : Nat} {L : Array Bool → Act → Made → Prop} {Q' : Exit → Act → World → Prop} (hL : ∀ listed a m w, Grown S h0 m w → L listed a m → wpAny P md ops Q' g listed a w) :
    ∀ (f : Nat) (listed : Array Bool) (a : Act) (m : Made) (w : World), Grown S h0 m w → wpAnyG P md ops T S n L f listed a m → wpAny P md ops Q' (f + g) listed a w
  | 0, listed, a, m, w, hS, h => by rw [Nat.zero_add]; exact hL _ _ _ _ hS h
  | f + 1, listed, a, m, w, hS, h => by
    rw [show f + 1 + g = (f + g) + 1 by omega]
    refine ⟨fun h0 => absurd h0 h.1, fun i hi => ?_⟩
    have hf := (h.2 i hi).2
    obtain ⟨_, o, ho, _⟩ := mem_ready.1 hi
    unfold grOp at hf
    simp only [ho] at hf
    exact grOp_wp hLv ho hf hS fun a' m' w' hS' hk => wpAny_of_grow hLv hL f _ a' m' w' hS' hk
/-- What op i does is the same, whatever op j did before. -/
theorem grOp_put {T : Told} (hT : T.One) (hL : Lives S) {w0 : World} (hS : S w0) {i j : Nat} {oi oj : Oper} (hji : j ≠ i) (hj : ops[j]? = some oj) (hap : oi.apart ops oj = true)
    (hsi : ∀ cs b, oi.op ≠ .select cs b) (hsj : ∀ cs b, oj.op ≠ .select cs b) {K : Act → Made → Prop} {a : Act} {m : Made}
    (h : stepG P ops T S i oi (fun a' m' => grOp P ops T S j K a' m') a m) :
    grOp P ops T S j (fun a' m' => stepG P ops T S i oi K a' m') a m := by
  obtain ⟨h1, h2, h3⟩ := Oper.apart_spec hap
  unfold grOp at *
  simp only [hj] at *
  have yj : ∀ {v u : Value}, YieldsG P ops T S oj u (a.put oi.dst v) → YieldsG P ops T S oj u a := fun {v u} hy => hy.of_same (execOp_put oj hsj a oi.dst v h1).symm (wanted_put oj a oi.dst v h1).symm
  have mj : ∀ {v : Value} {V b}, MakesG P ops S oj V b (a.put oi.dst v) → MakesG P ops S oj V b a := fun {v V b} hy => hy.of_same (execOp_put oj hsj a oi.dst v h1).symm (wanted_put oj a oi.dst v h1).symm
  have yi : ∀ {v u : Value}, YieldsG P ops T S oi v a → YieldsG P ops T S oi v (a.put oj.dst u) := fun {v u} hy => hy.of_same (execOp_put oi hsi a oj.dst u h3) (wanted_put oi a oj.dst u h3)
  have mi : ∀ {u : Value} {V b}, MakesG P ops S oi V b a → MakesG P ops S oi V b (a.put oj.dst u) := fun {u V b} hy => hy.of_same (execOp_put oi hsi a oj.dst u h3) (wanted_put oi a oj.dst u h3)
  rcases h with ⟨v, hy, hk⟩ | ⟨V, b, hy, hk⟩
  · rcases hk with ⟨u, hu, hk⟩ | ⟨U, c, hu, hk⟩
    · exact .inl ⟨u, yj hu, .inl ⟨v, yi hy, by rw [← Act.put_comm a v u h2]; exact hk⟩⟩
    · exact .inr ⟨U, c, mj hu, fun g => .inl ⟨v, yi hy, by rw [← Act.put_comm a v (shapeV U g) h2]; exact hk g⟩⟩
  · rcases hk 0 with ⟨u, hu, _⟩ | ⟨U, c, hu, _⟩
    · refine .inl ⟨u, yj hu, .inr ⟨V, b, mi hy, fun g => ?_⟩⟩
      rcases hk g with ⟨u', hu', hk'⟩ | ⟨U', c', hu', _⟩
      · obtain rfl := YieldsG.one hT hS (yj hu) (yj hu')
        rw [← Act.put_comm a (shapeV V g) u h2]
        exact hk'
      · exact absurd (yields_makes hL hS (yj hu) (mj hu')) id
    · refine .inr ⟨U, c, mj hu, fun g' => .inr ⟨V, b, mi hy, fun g => ?_⟩⟩
      rcases hk g with ⟨u', hu', _⟩ | ⟨U', c', hu', hk'⟩
      · exact absurd (yields_makes hL hS (yj hu') (mj hu)) id
      · obtain ⟨rfl, rfl⟩ := MakesG.one hS (mj hu) (mj hu')
        rw [← Act.put_comm a (shapeV V g) (shapeV U g') h2, ← Made.add_comm m (Ne.symm hji)]
        exact hk' g'
theorem wpAnyG_first {T : Told} (hT : T.One) (hLv : Lives S) {w0 : World} (hS : S w0) {n i : Nat} {oi : Oper} {L : Array Bool → Act → Made → Prop} (hi : ops[i]? = some oi) (hsel : ∀ (j : Nat) (o : Oper) cs b, ops[j]? = some o → o.op ≠ .select cs b)
    (hw : ∀ listed, HeadInv md ops n listed → listed.getD i true = false → ∀ j, n ≤ j → j ∉ Region.ready md ops listed)
    (hdone : ∀ listed a m, L listed a m → ∀ j ∈ Region.ready md ops listed, n ≤ j) :
    ∀ (f : Nat) (listed : Array Bool) (a : Act) (m : Made), HeadInv md ops n listed →
      (∀ j oj, ops[j]? = some oj → j ≠ i → listed.getD j true = false → (∀ e ∈ oj.after, Region.binds md e = true → e.on ≠ i) → oi.apart ops oj = true) →
      i ∈ Region.ready md ops listed →
      stepG P ops T S i oi (wpAnyG P md ops T S n L f (listed.setIfInBounds i true)) a m → wpAnyG P md ops T S n L (f + 1) listed a m := by
  have self : ∀ {K : Act → Made → Prop} {a : Act} {m : Made}, stepG P ops T S i oi K a m → grOp P ops T S i K a m := fun h => by
    unfold grOp
    simp only [hi]
    exact h
  intro f
  induction f with
  | zero =>
    intro listed a m inv _ hr H
    have hun := (mem_ready.1 hr).1
    refine ⟨fun h => (by rw [h] at hr; cases hr), fun j hj => ?_⟩
    have hjn : j < n := by
      rcases Nat.lt_or_ge j n with h | h
      · exact h
      · exact absurd hj (hw _ inv hun j h)
    refine ⟨hjn, ?_⟩
    by_cases hji : j = i
    · subst hji; exact self H
    · have : n ≤ j := by
        rcases H with ⟨v, _, hk⟩ | ⟨V, b, _, hk⟩
        · exact hdone _ _ _ hk j (ready_mono hj hji)
        · exact hdone _ _ _ (hk 0) j (ready_mono hj hji)
      omega
  | succ f ih =>
    intro listed a m inv hfree hr H
    have hun := (mem_ready.1 hr).1
    refine ⟨fun h => (by rw [h] at hr; cases hr), fun j hj => ?_⟩
    have hjn : j < n := by
      rcases Nat.lt_or_ge j n with h | h
      · exact h
      · exact absurd hj (hw _ inv hun j h)
    refine ⟨hjn, ?_⟩
    by_cases hji : j = i
    · subst hji; exact self H
    · obtain ⟨hjun, oj, hoj, hall⟩ := mem_ready.1 hj
      have hnot : ∀ e ∈ oj.after, Region.binds md e = true → e.on ≠ i := fun e he hb heq => by
        have h1 := hall e he hb
        rw [heq, getD_both hun] at h1
        cases h1
      have h1 : stepG P ops T S i oi (fun a' m' => grOp P ops T S j (wpAnyG P md ops T S n L f ((listed.setIfInBounds i true).setIfInBounds j true)) a' m') a m := by
        rcases H with ⟨v, hy, hk⟩ | ⟨V, b, hy, hk⟩
        · exact .inl ⟨v, hy, (hk.2 j (ready_mono hj hji)).2⟩
        · exact .inr ⟨V, b, hy, fun g => ((hk g).2 j (ready_mono hj hji)).2⟩
      have h2 := grOp_put hT hLv hS hji hoj (hfree j oj hoj hji hjun hnot) (fun cs b => hsel i oi cs b hi) (fun cs b => hsel j oj cs b hoj) h1
      have hfree' : ∀ k ok, ops[k]? = some ok → k ≠ i → (listed.setIfInBounds j true).getD k true = false →
          (∀ e ∈ ok.after, Region.binds md e = true → e.on ≠ i) → oi.apart ops ok = true := fun k ok hk hki hun hno => by
        refine hfree k ok hk hki ?_ hno
        by_cases hjk : j = k
        · subst hjk; exact hjun
        · rw [getD_set_ne true hjk] at hun; exact hun
      refine grOp_mono (fun a' m' h3 => ih (listed.setIfInBounds j true) a' m' (inv.set hj hjn) hfree' (ready_mono hr (Ne.symm hji)) ?_) h2
      rw [Array.setIfInBounds_comm _ _ hji]
      exact h3
/-- Operations in the text's order. -/
def wpGrow (P : Program) (ops : Array Oper) (T : Told) (S : World → Prop) (Q : Act → Made → Prop) : Nat → List Oper → Act → Made → Prop
  | _, [], a, m => Q a m
  | i, o :: rest, a, m => stepG P ops T S i o (wpGrow P ops T S Q (i + 1) rest) a m
theorem wpAnyG_lex {T : Told} (hT : T.One) (hLv : Lives S) {w0 : World} (hS : S w0) {n g : Nat} {Lq : Act → Made → Prop} (hsel : Region.noSelect ops = true) (hw : ∀ i, i < n → ∀ listed, HeadInv md ops n listed → listed.getD i true = false → ∀ j, n ≤ j → j ∉ Region.ready md ops listed) :
    ∀ (l : List Oper) (k : Nat) (listed : Array Bool) (a : Act) (m : Made), (∀ j, j < l.length → l[j]? = ops[k + j]?) → k + l.length = n → HeadInv md ops n listed →
    Region.lexHead md ops g l.length k listed = true → wpGrow P ops T S Lq k l a m →
    wpAnyG P md ops T S n (fun listed' a' m' => Region.seqB md ops g n listed' = true ∧ Lq a' m') l.length listed a m
  | [], k, listed, a, m, _, hk, _, hB, h => by
    have : k = n := by simpa using hk
    subst this
    exact ⟨by simpa [Region.lexHead] using hB, h⟩
  | o :: l, k, listed, a, m, hl, hk, inv, hB, h => by
    have h0 : ops[k]? = some o := by simpa using (hl 0 (by simp)).symm
    simp only [List.length_cons, Region.lexHead, Bool.and_eq_true] at hB
    obtain ⟨⟨hr, hf⟩, hB'⟩ := hB
    have hkn : k < n := by simp only [List.length_cons] at hk; omega
    have hr' : k ∈ Region.ready md ops listed := by simpa using hr
    have next : ∀ a' m', wpGrow P ops T S Lq (k + 1) l a' m' → wpAnyG P md ops T S n (fun listed' a' m' => Region.seqB md ops g n listed' = true ∧ Lq a' m') l.length (listed.setIfInBounds k true) a' m' := fun a' m' h' =>
      wpAnyG_lex hT hLv hS hsel hw l (k + 1) _ a' m' (fun j hj => by have := hl (j + 1) (by simp; omega); simpa [Nat.add_assoc, Nat.add_comm 1 j] using this) (by simp only [List.length_cons] at hk; omega) (inv.set hr' hkn) hB' h'
    refine wpAnyG_first hT hLv hS h0 (Region.noSelect_spec hsel) (hw k hkn) (fun listed' a' m' hL => seqB_ready hL.1) l.length listed a m inv (Region.free_spec h0 hf) hr' ?_
    rcases h with ⟨v, hy, hk⟩ | ⟨V, b, hy, hk⟩
    · exact .inl ⟨v, hy, next _ _ hk⟩
    · exact .inr ⟨V, b, hy, fun g => next _ _ (hk g)⟩
/-- The rule. -/
theorem wp_region_grow {id : Nat} {Q : Exit → Act → World → Prop} {a : Act} {w : World} {l : List Oper} (T : Told) (S : World → Prop) (h0 n : Nat) (hT : T.One) (hLv : Lives S) (hm : P.follows .mixedOrders = true) (hB : Region.lexTailB .any l.toArray n = true)
    (hS : S { w with drawn := w.drawn + 1 }) (hh : h0 ≤ w.heap.size)
    (h : wpGrow P l.toArray T S (fun a' m' => ∀ w', Grown S h0 m' w' → wpList P l.toArray Q (l.drop n) a' w') 0 (l.take n) a Made.none) : (Code.region id l.toArray true).wp P Q a w := by
  simp only [Region.lexTailB, Bool.and_eq_true, decide_eq_true_eq] at hB
  obtain ⟨⟨⟨⟨hsel, hn⟩, hs⟩, hc⟩, hlex⟩ := hB
  have hn' : n < l.length := by simpa using hn
  have htl : (l.take n).length = n := by simp; omega
  have hdl : (l.drop n).length = l.toArray.size - n := by simp
  have inv0 : HeadInv .any l.toArray n (Array.replicate l.toArray.size false) :=
    ⟨by simp, fun j oj _ hl => (by rw [getD_replicate_false] at hl; cases hl), fun t _ ht => getD_in (by simpa using ht) (getD_replicate_false _ _)⟩
  have H := wpAnyG_lex (md := .any) hT hLv hS (g := l.toArray.size - n) hsel (fun i hi listed inv hun j hj => tail_waits hs hc hn inv _ i rfl hi hun j hj) (l.take n) 0 _ a Made.none (fun j hj => by
    have hj' : j < n := by rw [htl] at hj; exact hj
    simp [hj']) (by simpa using htl) inv0 (by rw [htl]; exact hlex) h
  refine wp_region_any hm ?_
  have := wpAny_of_grow (h0 := h0) hLv (Q' := Q) (g := l.toArray.size - n) (fun listed a' m' w' hS' hL => by
    have := wpAny_of_seq (md := .any) (Q' := Q) (l.drop n) n listed a' w' (fun j => by simp [List.getElem?_drop]) (by rw [hdl]; exact hL.1) (hL.2 w' hS')
    rwa [hdl] at this) _ _ _ _ _ ⟨hS, hh, fun i g o hm => (by cases hm), fun i j g o o' hm => (by cases hm)⟩ H
  rw [htl, show n + (l.toArray.size - n) = l.toArray.size by omega] at this
  exact this
/-- The rule for a region without an operation that waits for all: every operation is taken, in the text's order. -/
theorem wp_region_growAll {id : Nat} {Q : Exit → Act → World → Prop} {a : Act} {w : World} {l : List Oper} (T : Told) (S : World → Prop) (h0 : Nat) (hT : T.One) (hLv : Lives S) (hm : P.follows .mixedOrders = true) (hsel : Region.noSelect l.toArray = true)
    (hB : Region.lexHead .any l.toArray 0 l.length 0 (Array.replicate l.length false) = true)
    (hS : S { w with drawn := w.drawn + 1 }) (hh : h0 ≤ w.heap.size)
    (h : wpGrow P l.toArray T S (fun a' m' => ∀ w', Grown S h0 m' w' → Q .normal a' w') 0 l a Made.none) : (Code.region id l.toArray true).wp P Q a w := by
  have inv0 : HeadInv .any l.toArray l.length (Array.replicate l.length false) :=
    ⟨by simp, fun j oj _ hl => (by rw [getD_replicate_false] at hl; cases hl), fun t h1 ht => absurd ht (by simp; omega)⟩
  have H := wpAnyG_lex (md := .any) (n := l.length) hT hLv hS (g := 0) hsel (fun i _ listed _ _ j hj hr => by
    obtain ⟨_, o, ho, _⟩ := mem_ready.1 hr
    rw [Array.getElem?_eq_none (by simpa using hj)] at ho
    cases ho) l 0 _ a Made.none (fun j _ => by simp) (by simp) inv0 hB h
  refine wp_region_any hm ?_
  have := wpAny_of_grow (h0 := h0) hLv (Q' := Q) (g := 0) (fun listed a' m' w' hS' hL => by
    refine ⟨?_, hL.2 w' hS'⟩
    have := hL.1
    simpa [Region.seqB] using this) _ _ _ _ _ ⟨hS, hh, fun i g o hm => (by cases hm), fun i j g o o' hm => (by cases hm)⟩ H
  simpa using this
variable {T : Told}
theorem wpGrow_nil {Q : Act → Made → Prop} {i : Nat} {a : Act} {m : Made} (h : Q a m) : wpGrow P ops T S Q i [] a m := h
theorem wpGrow_read {Q : Act → Made → Prop} {i : Nat} {a : Act} {m : Made} {o : Oper} {rest : List Oper} (v : Value) (hw : Region.wanted o (yielded ops a.tmps) = true)
    (h : ∀ w, S w → (execOp a.eval o).run P w = .ok (.value v) w) (k : wpGrow P ops T S Q (i + 1) rest (a.put o.dst v) m) : wpGrow P ops T S Q i (o :: rest) a m :=
  .inl ⟨v, .inl ⟨hw, fun w hS => by rw [h w hS]; exact ⟨rfl, Below.refl _ _⟩⟩, k⟩
theorem wpGrow_call {Q : Act → Made → Prop} {i : Nat} {a : Act} {m : Made} {o : Oper} {rest : List Oper} (v : Value) (f : FuncId) (args : Array Value) (hw : Region.wanted o (yielded ops a.tmps) = true)
    (h : ∀ w, S w → (execOp a.eval o).run P w = .ok (.enter f args) w) (hT : T f args v) (hc : ∀ w, S w → Calls P f args w fun e w'' => e = .returned v ∧ Below w.heap.size w w'') (k : wpGrow P ops T S Q (i + 1) rest (a.put o.dst v) m) : wpGrow P ops T S Q i (o :: rest) a m :=
  .inl ⟨v, .inl ⟨hw, fun w hS => by rw [h w hS]; exact ⟨hT, rfl, hc w hS⟩⟩, k⟩
theorem wpGrow_make {Q : Act → Made → Prop} {i : Nat} {a : Act} {m : Made} {o : Oper} {rest : List Oper} (V : Option (Nat × Nat)) (b : Obj) (hw : Region.wanted o (yielded ops a.tmps) = true)
    (h : ∀ w, S w → (execOp a.eval o).run P w = .ok (.value (shapeV V w.heap.size)) (w.alloc b)) (k : ∀ g, wpGrow P ops T S Q (i + 1) rest (a.put o.dst (shapeV V g)) (m.add i g b)) : wpGrow P ops T S Q i (o :: rest) a m :=
  .inr ⟨V, b, ⟨hw, h⟩, k⟩
end
end Go.Proofs.YticljmgcgjibpaaGreatDoor
