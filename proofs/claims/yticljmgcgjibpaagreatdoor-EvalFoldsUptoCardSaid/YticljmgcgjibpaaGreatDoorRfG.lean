/-
  A rule for a region that draws its order, whose operations read, reckon, make blocks, or call functions that make memory: each operation of the head is taken once, in an order of ours; of what a call answers a fact is told that lives on where the world grows (here a fact may speak of what was told before); what stands behind (the tail) is walked in order. Conditions: none. No program is named here.
-/
import Derived.Test.YticljmgcgjibpaaGreatDoorGrow
import Derived.Test.YticljmgcgjibpaaGreatDoorMem
import Derived.Test.YticljmgcgjibpaaGreatDoorRfY
import Derived.Test.YticljmgcgjibpaaGreatDoorOrdE
import Derived.Test.YticljmgcgjibpaaGreatDoorRowsE
import Derived.Test.YticljmgcgjibpaaGreatDoorEvG
namespace Go.Proofs.YticljmgcgjibpaaGreatDoor.M
open Go Go.RowKit

section
variable {P : Program} {ops : Array Oper} {md : Region.Mode} {S : World → Prop} {h0 : Nat} {R : Nat → World → World → Prop} {Sh : Nat → Value → Prop} {mk : Bool}

/-- What is known: the blocks that were made, the values that were told. -/
structure Known where
  bl : Made
  vl : Nat → Option Value
  fl : Nat → Option (World → Prop)
abbrev FactM := Known → Value → World → Prop
def Known.none : Known := ⟨Made.none, fun _ => Option.none, fun _ => Option.none⟩
def Known.make (m : Known) (i g : Nat) (o : Obj) : Known := ⟨m.bl.add i g o, m.vl, m.fl⟩
def Known.told (m : Known) (i : Nat) (v : Value) (F : World → Prop) : Known := ⟨m.bl, fun k => if k = i then some v else m.vl k, fun k => if k = i then some F else m.fl k⟩
theorem Known.told_comm (m : Known) {i j : Nat} (h : i ≠ j) (v u : Value) (F G : World → Prop) : (m.told i v F).told j u G = (m.told j u G).told i v F := by
  have e : ∀ {α : Type 1} (f : Nat → Option α) (x y : α), (fun k => if k = j then some y else if k = i then some x else f k) = (fun k => if k = i then some x else if k = j then some y else f k) := by
    intro α f x y
    funext k
    by_cases h1 : k = j
    · subst h1; simp [Ne.symm h]
    · simp [h1]
  have e0 : ∀ {α : Type} (f : Nat → Option α) (x y : α), (fun k => if k = j then some y else if k = i then some x else f k) = (fun k => if k = i then some x else if k = j then some y else f k) := by
    intro α f x y
    funext k
    by_cases h1 : k = j
    · subst h1; simp [Ne.symm h]
    · simp [h1]
  unfold Known.told
  simp only [Known.mk.injEq, true_and]
  exact ⟨e0 _ _ _, e0 _ _ _⟩
theorem Known.make_comm (m : Known) {i j : Nat} (h : i ≠ j) (g g' : Nat) (o o' : Obj) : (m.make i g o).make j g' o' = (m.make j g' o').make i g o := by
  unfold Known.make
  simp only [Made.add_comm m.bl h]
theorem Known.make_told (m : Known) (i j g : Nat) (o : Obj) (v : Value) (F : World → Prop) : (m.make i g o).told j v F = (m.told j v F).make i g o := rfl
/-- The facts live on where the world only grows. -/
def Stable (T : Nat → Option FactM) : Prop := ∀ i Φ, T i = some Φ → ∀ (m : Known) (v : Value) (w w' : World), Φ m v w → Below w.heap.size w w' → Φ m v w'
/-- What the operations that tell a fact do to the world (R i: operation i): what is known lives on. -/
structure Turns (mk : Bool) (R : Nat → World → World → Prop) (S : World → Prop) (h0 : Nat) (T : Nat → Option FactM) : Prop where
  s : ∀ i w w', S w → R i w w' → S w'
  size : ∀ i w w', R i w w' → w.heap.size ≤ w'.heap.size
  block : mk = true → ∀ i w w', R i w w' → ∀ g o, h0 ≤ g → w.heap[g]? = some o → w'.heap[g]? = some o
  told : ∀ i k Φ, i ≠ k → T k = some Φ → ∀ m v w w', Φ m v w → R i w w' → Φ m v w'
/-- Nothing is said of the values. -/
def Any : Nat → Value → Prop := fun _ _ => True
theorem Any.some : ∀ i, ∃ v, Any i v := fun _ => ⟨undef, trivial⟩
/-- They are slices (of n elements). -/
def IsSl (n : Nat) (v : Value) : Prop := ∃ A c, v = .slice A n c
/-- The world only grows. -/
def Gro : Nat → World → World → Prop := fun _ w w' => Below w.heap.size w w'
theorem Gro.turns {S : World → Prop} {h0 : Nat} {T : Nat → Option FactM} (hL : Lives S) (hT : Stable T) : Turns true Gro S h0 T :=
  ⟨fun _ w w' hs hb => hL w w' hs hb, fun _ _ _ hb => hb.size, fun _ _ _ _ hb _ _ _ ho => (hb.block _ (lt_of_block ho)).trans ho, fun _ k Φ _ hk m v w w' hv hb => hT k Φ hk m v w w' hv hb⟩
structure Holds (mk : Bool) (S : World → Prop) (h0 : Nat) (T : Nat → Option FactM) (m : Known) (w : World) : Prop where
  s : S w
  big : h0 ≤ w.heap.size
  lies : ∀ i g o, m.bl i = some (g, o) → w.heap[g]? = some o ∧ h0 ≤ g
  told : ∀ i F, m.fl i = some F → F w ∧ ∃ Φ m0 v, T i = some Φ ∧ F = Φ m0 v
  nomk : mk = false → m.bl = Made.none
theorem Holds.below {T : Nat → Option FactM} {m : Known} {w w' : World} (hL : Lives S) (hT : Stable T) (h : Holds mk S h0 T m w) (hb : Below w.heap.size w w') : Holds mk S h0 T m w' :=
  ⟨hL _ _ h.s hb, Nat.le_trans h.big hb.size, fun i g o hm => by
    obtain ⟨h1, h2⟩ := h.lies i g o hm
    exact ⟨(hb.block g (lt_of_block h1)).trans h1, h2⟩, fun i F hF => by
    obtain ⟨h1, Φ, m0, v, hΦ, rfl⟩ := h.told i F hF
    exact ⟨hT i Φ hΦ m0 v _ _ h1 hb, Φ, m0, v, hΦ, rfl⟩, h.nomk⟩
theorem Holds.made {T : Nat → Option FactM} {m : Known} {w : World} {i : Nat} {o : Obj} (hmk : mk = true) (hL : Lives S) (hT : Stable T) (h : Holds mk S h0 T m w) : Holds mk S h0 T (m.make i w.heap.size o) (w.alloc o) := by
  have hb : Below w.heap.size w (w.alloc o) := (Below.refl _ _).alloc (Nat.le_refl _) o
  have h2 := h.below hL hT hb
  refine ⟨h2.s, h2.big, fun j g o' hm => ?_, h2.told, fun e => by rw [hmk] at e; cases e⟩
  unfold Known.make Made.add at hm
  simp only at hm
  split at hm
  · injection hm with hm
    injection hm with h1 h2
    subst h1 h2
    exact ⟨heap_alloc_new w _, h.big⟩
  · exact h2.lies j g o' hm
/-- Op j waits for op k, at once or by others. -/
def ancB (md : Region.Mode) (ops : Array Oper) : Nat → Nat → Nat → Bool
  | 0, _, _ => false
  | f + 1, j, k => Region.waitsFor md ops j k || (List.range ops.size).any fun j' => Region.waitsFor md ops j j' && ancB md ops f j' k
theorem ancB_some {f j k : Nat} (h : ancB md ops f j k = true) : ∃ oj, ops[j]? = some oj := by
  cases f with
  | zero => cases h
  | succ f =>
    simp only [ancB, Bool.or_eq_true] at h
    rcases h with h | h
    · obtain ⟨oj, ho, _⟩ := Region.waitsFor_spec h
      exact ⟨oj, ho⟩
    · obtain ⟨j', _, h2⟩ := List.any_eq_true.1 h
      simp only [Bool.and_eq_true] at h2
      obtain ⟨oj, ho, _⟩ := Region.waitsFor_spec h2.1
      exact ⟨oj, ho⟩
def Closed (md : Region.Mode) (ops : Array Oper) (listed : Array Bool) : Prop := ∀ j oj, ops[j]? = some oj → listed.getD j false = true → ∀ e ∈ oj.after, Region.binds md e = true → listed.getD e.on false = true
theorem anc_listed {listed : Array Bool} (hc : Closed md ops listed) {k : Nat} : ∀ (f j : Nat) (oj : Oper), ops[j]? = some oj → (∀ e ∈ oj.after, Region.binds md e = true → listed.getD e.on false = true) → ancB md ops f j k = true → listed.getD k false = true := by
  intro f
  induction f with
  | zero => intro j oj _ _ h; cases h
  | succ f ih =>
    intro j oj ho hall h
    simp only [ancB, Bool.or_eq_true] at h
    rcases h with h | h
    · obtain ⟨oj', ho', e, he, hb, hon⟩ := Region.waitsFor_spec h
      have : oj' = oj := Option.some.inj (ho'.symm.trans ho)
      subst this
      rw [← hon]
      exact hall e he hb
    · obtain ⟨j', _, h2⟩ := List.any_eq_true.1 h
      simp only [Bool.and_eq_true] at h2
      obtain ⟨oj', ho', e, he, hb, hon⟩ := Region.waitsFor_spec h2.1
      have : oj' = oj := Option.some.inj (ho'.symm.trans ho)
      subst this
      have hl := hall e he hb
      rw [hon] at hl
      obtain ⟨ok, hok⟩ := ancB_some h2.2
      exact ih j' ok hok (fun e he hb => hc j' ok hok hl e he hb) h2.2
/-- What op j may lean on. -/
def Seen (md : Region.Mode) (ops : Array Oper) (_T : Nat → Option FactM) (h0 j : Nat) (m : Known) (w : World) : Prop :=
  (∀ k F, ancB md ops ops.size j k = true → m.fl k = some F → F w) ∧ (∀ k g o, ancB md ops ops.size j k = true → m.bl k = some (g, o) → w.heap[g]? = some o ∧ h0 ≤ g)
def ToldRun (P : Program) (R : World → World → Prop) (Φ : Value → World → Prop) (w : World) : Result Next → Prop
  | .ok (.value u) w' => Φ u w' ∧ R w w'
  | .ok .skip w' => Φ undef w' ∧ R w w'
  | .ok (.enter f args) w' => Calls P f args w' (fun e w'' => ∃ u, e = .returned u ∧ Φ u w'' ∧ R w w'')
  | _ => False
def DoesT (P : Program) (md : Region.Mode) (ops : Array Oper) (R : Nat → World → World → Prop) (Sh : Nat → Value → Prop) (T : Nat → Option FactM) (S : World → Prop) (h0 i : Nat) (o : Oper) (Φ : FactM) (a : Act) (m : Known) : Prop :=
  Region.wanted o (yielded ops a.tmps) = true ∧ ∀ w, S w → h0 ≤ w.heap.size → Seen md ops T h0 i m w → ToldRun P (R i) (fun u w' => Sh i u ∧ Φ m u w') w ((execOp a.eval o).run P w)
def PureRun (v : Value) (w : World) : Result Next → Prop
  | .ok (.value u) w' => u = v ∧ w' = w
  | .ok .skip w' => v = undef ∧ w' = w
  | _ => False
def YieldsP (P : Program) (ops : Array Oper) (S : World → Prop) (o : Oper) (v : Value) (a : Act) : Prop :=
  (Region.wanted o (yielded ops a.tmps) = true ∧ ∀ w, S w → PureRun v w ((execOp a.eval o).run P w)) ∨
  (Region.wanted o (yielded ops a.tmps) = false ∧ v = undef)
theorem YieldsP.one {o : Oper} {v v' : Value} {a : Act} {w0 : World} (hS : S w0) (h : YieldsP P ops S o v a) (h' : YieldsP P ops S o v' a) : v = v' := by
  rcases h with ⟨hw, h⟩ | ⟨hw, rfl⟩
  · rcases h' with ⟨_, h'⟩ | ⟨hw', _⟩
    · have k := h w0 hS
      have k' := h' w0 hS
      generalize (execOp a.eval o).run P w0 = r at *
      cases r with
      | ok n w' =>
        cases n <;> simp only [PureRun] at k k'
        case value u => exact k.1.symm.trans k'.1
        case skip => exact k.1.trans k'.1.symm
      | halt x w' => simp only [PureRun] at k
    · rw [hw] at hw'; cases hw'
  · rcases h' with ⟨hw', _⟩ | ⟨_, rfl⟩
    · rw [hw] at hw'; cases hw'
    · rfl
theorem yields_makesP {o : Oper} {v : Value} {V : Option (Nat × Nat)} {b : Obj} {a : Act} {w0 : World} (hS : S w0) (h : YieldsP P ops S o v a) (h' : MakesG P ops S o V b a) : False := by
  rcases h with ⟨_, h⟩ | ⟨hw, _⟩
  · have k := h w0 hS
    rw [h'.2 w0 hS] at k
    simp only [PureRun] at k
    have := congrArg (fun w : World => w.heap.size) k.2
    simp at this
  · rw [h'.1] at hw; cases hw
theorem YieldsP.of_same {o : Oper} {v : Value} {a a' : Act} (hy : YieldsP P ops S o v a) (he : execOp a'.eval o = execOp a.eval o)
    (hw : Region.wanted o (yielded ops a'.tmps) = Region.wanted o (yielded ops a.tmps)) : YieldsP P ops S o v a' := by
  unfold YieldsP at *
  rw [he, hw]
  exact hy
/-- What is known agrees on what operation i waits for. -/
def Same (md : Region.Mode) (ops : Array Oper) (i : Nat) (m m' : Known) : Prop := ∀ k, ancB md ops ops.size i k = true → m'.vl k = m.vl k ∧ m'.bl k = m.bl k ∧ m'.fl k = m.fl k
/-- The facts speak of nothing but what their operations wait for. -/
def Loc (md : Region.Mode) (ops : Array Oper) (T : Nat → Option FactM) : Prop := ∀ i Φ, T i = some Φ → ∀ m m', Same md ops i m m' → Φ m' = Φ m
theorem DoesT.of_same {T : Nat → Option FactM} (hLo : Loc md ops T) {i : Nat} {o : Oper} {Φ : FactM} (hTi : T i = some Φ) {a a' : Act} {m m' : Known} (hy : DoesT P md ops R Sh T S h0 i o Φ a m) (he : execOp a'.eval o = execOp a.eval o)
    (hw : Region.wanted o (yielded ops a'.tmps) = Region.wanted o (yielded ops a.tmps)) (hm : Same md ops i m m') : DoesT P md ops R Sh T S h0 i o Φ a' m' := by
  unfold DoesT at *
  rw [he, hw, hLo i Φ hTi m m' hm]
  refine ⟨hy.1, fun w hS hh hs => hy.2 w hS hh ⟨fun k F ha hv => hs.1 k F ha (by rw [(hm k ha).2.2]; exact hv), fun k g o ha hg => hs.2 k g o ha (by rw [(hm k ha).2.1]; exact hg)⟩⟩
/-- One step, whichever kind. -/
def stepT (P : Program) (md : Region.Mode) (ops : Array Oper) (mk : Bool) (R : Nat → World → World → Prop) (Sh : Nat → Value → Prop) (T : Nat → Option FactM) (S : World → Prop) (h0 i : Nat) (o : Oper) (K : Act → Known → Prop) (a : Act) (m : Known) : Prop :=
  match T i with
  | some Φ => DoesT P md ops R Sh T S h0 i o Φ a m ∧ ∀ v, Sh i v → K (a.put o.dst v) (m.told i v (Φ m v))
  | none => (∃ v, YieldsP P ops S o v a ∧ K (a.put o.dst v) m) ∨ (mk = true ∧ ∃ V b, MakesG P ops S o V b a ∧ ∀ g, K (a.put o.dst (shapeV V g)) (m.make i g b))
theorem stepT_mono {T : Nat → Option FactM} {i : Nat} {o : Oper} {K K' : Act → Known → Prop} {a : Act} {m : Known} (h : ∀ a m, K a m → K' a m) (hh : stepT P md ops mk R Sh T S h0 i o K a m) : stepT P md ops mk R Sh T S h0 i o K' a m := by
  unfold stepT at *
  cases hT : T i with
  | some Φ =>
    simp only [hT] at hh ⊢
    exact ⟨hh.1, fun v hv => h _ _ (hh.2 v hv)⟩
  | none =>
    simp only [hT] at hh ⊢
    rcases hh with ⟨v, hv, hk⟩ | ⟨hmk, V, b, hv, hk⟩
    · exact .inl ⟨v, hv, h _ _ hk⟩
    · exact .inr ⟨hmk, V, b, hv, fun g => h _ _ (hk g)⟩
def tOp (P : Program) (md : Region.Mode) (ops : Array Oper) (mk : Bool) (R : Nat → World → World → Prop) (Sh : Nat → Value → Prop) (T : Nat → Option FactM) (S : World → Prop) (h0 i : Nat) (K : Act → Known → Prop) (a : Act) (m : Known) : Prop :=
  match ops[i]? with
  | none => K a m
  | some o => stepT P md ops mk R Sh T S h0 i o K a m
theorem tOp_mono {T : Nat → Option FactM} {i : Nat} {K K' : Act → Known → Prop} {a : Act} {m : Known} (h : ∀ a m, K a m → K' a m) (hh : tOp P md ops mk R Sh T S h0 i K a m) : tOp P md ops mk R Sh T S h0 i K' a m := by
  unfold tOp at *
  split
  · rename_i hi
    simp only [hi] at hh
    exact h _ _ hh
  · rename_i o hi
    simp only [hi] at hh
    exact stepT_mono h hh
theorem stepT_wp {T : Nat → Option FactM} {Q : Exit → Act → World → Prop} (hL : Lives S) (hT : Stable T) (hR : Turns mk R S h0 T) {i : Nat} {o : Oper} {a : Act} {m : Known} (hi : ops[i]? = some o) {K : Act → Known → Prop} (h : stepT P md ops mk R Sh T S h0 i o K a m) {w : World} (hS : Holds mk S h0 T m w)
    {K' : Act → World → Prop} (hK : ∀ a' m' w', Holds mk S h0 T m' w' → K a' m' → K' a' w') : wpOp P ops Q i K' a w := by
  unfold Go.wpOp
  simp only [hi]
  unfold stepT at h
  cases hTi : T i with
  | some Φ =>
    simp only [hTi] at h
    obtain ⟨⟨hw, hv⟩, hk⟩ := h
    simp only [hw, if_true]
    refine .inl ?_
    have := hv w hS.s hS.big ⟨fun k F _ hF => (hS.told k F hF).1, fun k g o _ hg => hS.lies k g o hg⟩
    have fin : ∀ u w', (Sh i u ∧ Φ m u w') → R i w w' → K' (a.put o.dst u) w' := fun u w' ⟨hsu, hu⟩ hb => by
      refine hK _ (m.told i u (Φ m u)) _ ⟨hR.s i _ _ hS.s hb, Nat.le_trans hS.big (hR.size i _ _ hb), fun k g o hm => ?_, fun k F hkv => ?_, hS.nomk⟩ (hk u hsu)
      · obtain ⟨h1, h2⟩ := hS.lies k g o hm
        cases hmk : mk with
        | true => exact ⟨hR.block hmk i _ _ hb g o h2 h1, h2⟩
        | false =>
          have e : m.bl = Made.none := hS.nomk hmk
          have hm' : m.bl k = some (g, o) := hm
          rw [e] at hm'
          cases hm'
      unfold Known.told at hkv
      simp only at hkv
      split at hkv
      · rename_i e
        subst e
        injection hkv with hkv
        subst hkv
        exact ⟨hu, Φ, m, u, hTi, rfl⟩
      · rename_i hne
        obtain ⟨h1, Ψ, m0, v, hΨ, rfl⟩ := hS.told k F hkv
        exact ⟨hR.told i k Ψ (fun e => hne e.symm) hΨ m0 v _ _ h1 hb, Ψ, m0, v, hΨ, rfl⟩
    unfold Oper.wp
    generalize (execOp a.eval o).run P w = r at *
    cases r with
    | ok n w' =>
      cases n <;> simp only [ToldRun] at this
      case value u => exact fin _ _ this.1 this.2
      case skip => exact fin _ _ this.1 this.2
      case enter f args =>
        refine Calls.mono this fun e w'' he => ?_
        obtain ⟨u, rfl, hu, hb⟩ := he
        exact fin _ _ hu hb
    | halt x w' => simp only [ToldRun] at this
  | none =>
    simp only [hTi] at h
    rcases h with ⟨v, hy, hk⟩ | ⟨hmk, V, b, ⟨hw, hv⟩, hk⟩
    · rcases hy with ⟨hw, hv⟩ | ⟨hw, rfl⟩
      · simp only [hw, if_true]
        refine .inl ?_
        have := hv w hS.s
        unfold Oper.wp
        generalize (execOp a.eval o).run P w = r at *
        cases r with
        | ok n w' =>
          cases n <;> simp only [PureRun] at this
          case value u => obtain ⟨rfl, rfl⟩ := this; exact hK _ _ _ hS hk
          case skip => obtain ⟨rfl, rfl⟩ := this; exact hK _ _ _ hS hk
        | halt x w' => simp only [PureRun] at this
      · simp only [hw, Bool.false_eq_true, if_false]
        exact hK _ _ _ hS hk
    · simp only [hw, if_true]
      refine .inl ?_
      unfold Oper.wp
      rw [hv w hS.s]
      exact hK _ _ _ (hS.made hmk hL hT) (hk _)
/-- What op i does is the same, whatever op j did before. -/
theorem tOp_put {T : Nat → Option FactM} (hSh : ∀ i, ∃ v, Sh i v) (hLo : Loc md ops T) {w0 : World} (hS : S w0) {i j : Nat} {oi oj : Oper} (hji : j ≠ i) (hj : ops[j]? = some oj) (hap : oi.apart ops oj = true) (haj : ancB md ops ops.size j i = false) (hai : ancB md ops ops.size i j = false)
    (hsi : ∀ cs b, oi.op ≠ .select cs b) (hsj : ∀ cs b, oj.op ≠ .select cs b) {K : Act → Known → Prop} {a : Act} {m : Known}
    (h : stepT P md ops mk R Sh T S h0 i oi (fun a' m' => tOp P md ops mk R Sh T S h0 j K a' m') a m) :
    tOp P md ops mk R Sh T S h0 j (fun a' m' => stepT P md ops mk R Sh T S h0 i oi K a' m') a m := by
  obtain ⟨h1, h2, h3⟩ := Oper.apart_spec hap
  unfold tOp at *
  simp only [hj] at *
  have yj : ∀ {v u : Value}, YieldsP P ops S oj u (a.put oi.dst v) → YieldsP P ops S oj u a := fun {v u} hy => hy.of_same (execOp_put oj hsj a oi.dst v h1).symm (wanted_put oj a oi.dst v h1).symm
  have mj : ∀ {v : Value} {V b}, MakesG P ops S oj V b (a.put oi.dst v) → MakesG P ops S oj V b a := fun {v V b} hy => hy.of_same (execOp_put oj hsj a oi.dst v h1).symm (wanted_put oj a oi.dst v h1).symm
  have yi : ∀ {v u : Value}, YieldsP P ops S oi v a → YieldsP P ops S oi v (a.put oj.dst u) := fun {v u} hy => hy.of_same (execOp_put oi hsi a oj.dst u h3) (wanted_put oi a oj.dst u h3)
  have mi : ∀ {u : Value} {V b}, MakesG P ops S oi V b a → MakesG P ops S oi V b (a.put oj.dst u) := fun {u V b} hy => hy.of_same (execOp_put oi hsi a oj.dst u h3) (wanted_put oi a oj.dst u h3)
  have nj : ∀ k, ancB md ops ops.size j k = true → k ≠ i := fun k hk e => by subst e; rw [haj] at hk; cases hk
  have ni : ∀ k, ancB md ops ops.size i k = true → k ≠ j := fun k hk e => by subst e; rw [hai] at hk; cases hk
  have sj : ∀ {v : Value} {F : World → Prop}, Same md ops j (m.told i v F) m := fun k hk => by simp [Known.told, nj k hk]
  have sj' : ∀ {v : Value} {F : World → Prop}, Same md ops j m (m.told i v F) := fun k hk => by simp [Known.told, nj k hk]
  have sjm : ∀ {g : Nat} {b : Obj}, Same md ops j (m.make i g b) m := fun k hk => by simp [Known.make, Made.add, nj k hk]
  have sjm' : ∀ {g : Nat} {b : Obj}, Same md ops j m (m.make i g b) := fun k hk => by simp [Known.make, Made.add, nj k hk]
  have si' : ∀ {u : Value} {F : World → Prop}, Same md ops i m (m.told j u F) := fun k hk => by simp [Known.told, ni k hk]
  have sim' : ∀ {g : Nat} {b : Obj}, Same md ops i m (m.make j g b) := fun k hk => by simp [Known.make, Made.add, ni k hk]
  have s0 : ∀ {i : Nat}, Same md ops i m m := fun k hk => ⟨rfl, rfl, rfl⟩
  unfold stepT at *
  cases hTi : T i with
  | some Φ =>
    cases hTj : T j with
    | some Ψ =>
      simp only [hTi, hTj] at h ⊢
      obtain ⟨hd, hk⟩ := h
      obtain ⟨v0, hv0⟩ := hSh i
      refine ⟨(hk v0 hv0).1.of_same hLo hTj (execOp_put oj hsj a oi.dst v0 h1).symm (wanted_put oj a oi.dst v0 h1).symm sj, fun u hu => ⟨hd.of_same hLo hTi (execOp_put oi hsi a oj.dst u h3) (wanted_put oi a oj.dst u h3) si', fun v hv => ?_⟩⟩
      have k2 := (hk v hv).2 u hu
      rw [hLo j Ψ hTj m (m.told i v (Φ m v)) sj'] at k2
      rw [hLo i Φ hTi m (m.told j u (Ψ m u)) si', ← Act.put_comm a v u h2, ← Known.told_comm m (Ne.symm hji)]
      exact k2
    | none =>
      simp only [hTi, hTj] at h ⊢
      obtain ⟨hd, hk⟩ := h
      obtain ⟨v0, hv0⟩ := hSh i
      rcases hk v0 hv0 with ⟨u, hu, _⟩ | ⟨hmk, U, c, hu, _⟩
      · refine .inl ⟨u, yj hu, hd.of_same hLo hTi (execOp_put oi hsi a oj.dst u h3) (wanted_put oi a oj.dst u h3) s0, fun v hv => ?_⟩
        rcases hk v hv with ⟨u', hu', hk'⟩ | ⟨_, U', c', hu', _⟩
        · obtain rfl := YieldsP.one hS (yj hu) (yj hu')
          rw [← Act.put_comm a v u h2]
          exact hk'
        · exact absurd (yields_makesP hS (yj hu) (mj hu')) id
      · refine .inr ⟨hmk, U, c, mj hu, fun g' => ⟨hd.of_same hLo hTi (execOp_put oi hsi a oj.dst _ h3) (wanted_put oi a oj.dst _ h3) sim', fun v hv => ?_⟩⟩
        rcases hk v hv with ⟨u', hu', _⟩ | ⟨_, U', c', hu', hk'⟩
        · exact absurd (yields_makesP hS (yj hu') (mj hu)) id
        · obtain ⟨rfl, rfl⟩ := MakesG.one hS (mj hu) (mj hu')
          rw [hLo i Φ hTi m (m.make j g' c) sim', ← Act.put_comm a v (shapeV U g') h2]
          exact hk' g'
  | none =>
    cases hTj : T j with
    | some Ψ =>
      simp only [hTi, hTj] at h ⊢
      rcases h with ⟨v, hy, hd, hk⟩ | ⟨hmk, V, b, hy, hk⟩
      · exact ⟨hd.of_same hLo hTj (execOp_put oj hsj a oi.dst v h1).symm (wanted_put oj a oi.dst v h1).symm s0, fun u hu => .inl ⟨v, yi hy, by rw [← Act.put_comm a v u h2]; exact hk u hu⟩⟩
      · refine ⟨(hk 0).1.of_same hLo hTj (execOp_put oj hsj a oi.dst _ h1).symm (wanted_put oj a oi.dst _ h1).symm sjm, fun u hu => .inr ⟨hmk, V, b, mi hy, fun g => ?_⟩⟩
        have k2 := (hk g).2 u hu
        rw [hLo j Ψ hTj m (m.make i g b) sjm'] at k2
        rw [← Act.put_comm a (shapeV V g) u h2]
        exact k2
    | none =>
      simp only [hTi, hTj] at h ⊢
      rcases h with ⟨v, hy, hk⟩ | ⟨hmk, V, b, hy, hk⟩
      · rcases hk with ⟨u, hu, hk⟩ | ⟨hmk, U, c, hu, hk⟩
        · exact .inl ⟨u, yj hu, .inl ⟨v, yi hy, by rw [← Act.put_comm a v u h2]; exact hk⟩⟩
        · exact .inr ⟨hmk, U, c, mj hu, fun g => .inl ⟨v, yi hy, by rw [← Act.put_comm a v (shapeV U g) h2]; exact hk g⟩⟩
      · rcases hk 0 with ⟨u, hu, _⟩ | ⟨_, U, c, hu, _⟩
        · refine .inl ⟨u, yj hu, .inr ⟨hmk, V, b, mi hy, fun g => ?_⟩⟩
          rcases hk g with ⟨u', hu', hk'⟩ | ⟨_, U', c', hu', _⟩
          · obtain rfl := YieldsP.one hS (yj hu) (yj hu')
            rw [← Act.put_comm a (shapeV V g) u h2]
            exact hk'
          · exact absurd (yields_makesP hS (yj hu) (mj hu')) id
        · refine .inr ⟨hmk, U, c, mj hu, fun g' => .inr ⟨hmk, V, b, mi hy, fun g => ?_⟩⟩
          rcases hk g with ⟨u', hu', _⟩ | ⟨_, U', c', hu', hk'⟩
          · exact absurd (yields_makesP hS (yj hu') (mj hu)) id
          · obtain ⟨rfl, rfl⟩ := MakesG.one hS (mj hu) (mj hu')
            rw [← Act.put_comm a (shapeV V g) (shapeV U g') h2, ← Known.make_comm m (Ne.symm hji)]
            exact hk' g'
/-! ### the order -/
structure HeadT (md : Region.Mode) (ops : Array Oper) (tl : List Nat) (listed : Array Bool) : Prop where
  size : listed.size = ops.size
  closed : Closed md ops listed
  tail : ∀ t ∈ tl, t < ops.size → listed.getD t true = false
theorem HeadT.set {tl : List Nat} {i : Nat} {listed : Array Bool} (inv : HeadT md ops tl listed) (hi : i ∈ Region.ready md ops listed) (hin : i ∉ tl) : HeadT md ops tl (listed.setIfInBounds i true) := by
  obtain ⟨_, oi, hoi, hall⟩ := mem_ready.1 hi
  refine ⟨by simp [inv.size], fun j oj hj hl e he hb => ?_, fun t ht ht' => by rw [getD_set_ne true (fun e => hin (by rw [e]; exact ht))]; exact inv.tail t ht ht'⟩
  by_cases hij : i = j
  · subst hij
    have : oj = oi := Option.some.inj (hj.symm.trans hoi)
    subst this
    exact getD_set_true (hall e he hb)
  · rw [getD_set_ne false hij] at hl
    exact getD_set_true (inv.closed j oj hj hl e he hb)
def sinkL (md : Region.Mode) (ops : Array Oper) (t0 : Nat) : List Nat → Bool
  | [] => true
  | i :: ys => ((ys ++ [t0]).any fun j => Region.waitsFor md ops j i) && sinkL md ops t0 ys
def chainL (md : Region.Mode) (ops : Array Oper) : List Nat → Bool
  | t :: t' :: ts => Region.waitsFor md ops t' t && chainL md ops (t' :: ts)
  | _ => true
theorem head_waits {t0 : Nat} {listed : Array Bool} (ht : listed.getD t0 true = false) (inv : Closed md ops listed) (hsz : listed.size = ops.size) : ∀ (hl : List Nat), sinkL md ops t0 hl = true → ∀ i ∈ hl, i < ops.size → listed.getD i true = false → t0 ∉ Region.ready md ops listed := by
  intro hl
  induction hl with
  | nil => intro _ i hi; cases hi
  | cons x ys ih =>
    intro hs i hi hlt hun hr
    simp only [sinkL, Bool.and_eq_true] at hs
    rcases List.mem_cons.1 hi with rfl | hi
    · obtain ⟨j, hj, hj2⟩ := List.any_eq_true.1 hs.1
      obtain ⟨oj, hoj, e, he, hb, hon⟩ := Region.waitsFor_spec hj2
      rcases List.mem_append.1 hj with hj | hj
      · cases hl : listed.getD j false with
        | true =>
          have h2 := inv j oj hoj hl e he hb
          rw [hon, getD_both hun] at h2
          cases h2
        | false =>
          have hjs : j < ops.size := (Array.getElem?_eq_some_iff.1 hoj).1
          exact ih hs.2 j hj hjs (getD_in (by rw [hsz]; exact hjs) hl) hr
      · have : j = t0 := by simpa using hj
        subst this
        obtain ⟨_, ot, hot, hall⟩ := mem_ready.1 hr
        have : oj = ot := Option.some.inj (hoj.symm.trans hot)
        subst this
        have h2 := hall e he hb
        rw [hon, getD_both hun] at h2
        cases h2
    · exact ih hs.2 i hi hlt hun hr
theorem chain_waits {listed : Array Bool} : ∀ (tl : List Nat), (∀ t ∈ tl, listed.getD t true = false) → chainL md ops tl = true → ∀ t ∈ tl.tail, t ∉ Region.ready md ops listed := by
  intro tl
  induction tl with
  | nil => intro _ _ t ht; cases ht
  | cons t ts ih =>
    intro ht hc
    cases ts with
    | nil => intro t ht; cases ht
    | cons t' ts =>
      simp only [chainL, Bool.and_eq_true] at hc
      intro u hu hr
      rcases List.mem_cons.1 hu with rfl | hu
      · obtain ⟨oj, hoj, e, he, hb, hon⟩ := Region.waitsFor_spec hc.1
        obtain ⟨_, ot, hot, hall⟩ := mem_ready.1 hr
        have : oj = ot := Option.some.inj (hoj.symm.trans hot)
        subst this
        have h2 := hall e he hb
        rw [hon, getD_both (ht t List.mem_cons_self)] at h2
        cases h2
      · exact ih (fun x hx => ht x (List.mem_cons_of_mem _ hx)) hc.2 u hu hr
/-- No operation of the tail comes up while one of the head waits. -/
def WaitsT (md : Region.Mode) (ops : Array Oper) (hl tl : List Nat) (listed0 : Array Bool) : Prop :=
  ∀ listed, HeadT md ops tl listed → (∀ j, listed0.getD j true = true → listed.getD j true = true) → (∃ i ∈ hl, i < ops.size ∧ listed.getD i true = false) → ∀ j ∈ Region.ready md ops listed, j ∈ hl ∧ j ∉ tl
theorem more_set {listed0 listed : Array Bool} {j : Nat} (h : ∀ k, listed0.getD k true = true → listed.getD k true = true) (k : Nat) (hk : listed0.getD k true = true) : (listed.setIfInBounds j true).getD k true = true := by
  by_cases hjk : j = k
  · subst hjk
    rcases Nat.lt_or_ge j listed.size with h' | h'
    · simp [h']
    · simp
  · rw [getD_set_ne true hjk]; exact h k hk
def wpAnyT (P : Program) (md : Region.Mode) (ops : Array Oper) (mk : Bool) (R : Nat → World → World → Prop) (Sh : Nat → Value → Prop) (T : Nat → Option FactM) (S : World → Prop) (h0 : Nat) (hl tl : List Nat) (L : Array Bool → Act → Known → Prop) : Nat → Array Bool → Act → Known → Prop
  | 0, listed, a, m => L listed a m
  | f + 1, listed, a, m =>
    Region.ready md ops listed ≠ [] ∧ ∀ i ∈ Region.ready md ops listed, (i ∈ hl ∧ i ∉ tl) ∧ tOp P md ops mk R Sh T S h0 i (wpAnyT P md ops mk R Sh T S h0 hl tl L f (listed.setIfInBounds i true)) a m
theorem wpAny_of_told {T : Nat → Option FactM} (hLv : Lives S) (hT : Stable T) (hR : Turns mk R S h0 T) {hl tl : List Nat} {g : Nat} {L : Array Bool → Act → Known → Prop} {Q' : Exit → Act → World → Prop} (hL : ∀ listed a m w, Holds mk S h0 T m w → L listed a m → wpAny P md ops Q' g listed a w) :
    ∀ (f : Nat) (listed : Array Bool) (a : Act) (m : Known) (w : World), Holds mk S h0 T m w → wpAnyT P md ops mk R Sh T S h0 hl tl L f listed a m → wpAny P md ops Q' (f + g) listed a w
  | 0, listed, a, m, w, hS, h => by rw [Nat.zero_add]; exact hL _ _ _ _ hS h
  | f + 1, listed, a, m, w, hS, h => by
    rw [show f + 1 + g = (f + g) + 1 by omega]
    refine ⟨fun h0 => absurd h0 h.1, fun i hi => ?_⟩
    have hf := (h.2 i hi).2
    obtain ⟨_, o, ho, _⟩ := mem_ready.1 hi
    unfold tOp at hf
    simp only [ho] at hf
    exact stepT_wp hLv hT hR ho hf hS fun a' m' w' hS' hk => wpAny_of_told hLv hT hR hL f _ a' m' w' hS' hk
theorem wpAnyT_first {T : Nat → Option FactM} (hSh : ∀ i, ∃ v, Sh i v) (hLo : Loc md ops T) {w0 : World} (hS : S w0) {hl tl : List Nat} {listed0 : Array Bool} {i : Nat} {oi : Oper} {L : Array Bool → Act → Known → Prop} (hi : ops[i]? = some oi) (hihl : i ∈ hl) (hitl : i ∉ tl) (hsel : ∀ (j : Nat) (o : Oper) cs b, ops[j]? = some o → o.op ≠ .select cs b)
    (hw : WaitsT md ops hl tl listed0) (hdone : ∀ listed a m, L listed a m → ∀ j ∈ Region.ready md ops listed, j ∈ tl) :
    ∀ (f : Nat) (listed : Array Bool) (a : Act) (m : Known), HeadT md ops tl listed → (∀ j, listed0.getD j true = true → listed.getD j true = true) →
      (∀ j oj, ops[j]? = some oj → j ≠ i → listed.getD j true = false → (∀ e ∈ oj.after, Region.binds md e = true → e.on ≠ i) → oi.apart ops oj = true) →
      i ∈ Region.ready md ops listed →
      stepT P md ops mk R Sh T S h0 i oi (wpAnyT P md ops mk R Sh T S h0 hl tl L f (listed.setIfInBounds i true)) a m → wpAnyT P md ops mk R Sh T S h0 hl tl L (f + 1) listed a m := by
  have self : ∀ {K : Act → Known → Prop} {a : Act} {m : Known}, stepT P md ops mk R Sh T S h0 i oi K a m → tOp P md ops mk R Sh T S h0 i K a m := fun h => by
    unfold tOp
    simp only [hi]
    exact h
  have hilt : i < ops.size := (Array.getElem?_eq_some_iff.1 hi).1
  intro f
  induction f with
  | zero =>
    intro listed a m inv hmore _ hr H
    have hun := (mem_ready.1 hr).1
    refine ⟨fun h => (by rw [h] at hr; cases hr), fun j hj => ?_⟩
    have hjn := hw listed inv hmore ⟨i, hihl, hilt, hun⟩ j hj
    refine ⟨hjn, ?_⟩
    by_cases hji : j = i
    · subst hji; exact self H
    · exfalso
      have := ready_mono hj hji
      unfold stepT at H
      refine hjn.2 ?_
      split at H
      · obtain ⟨v0, hv0⟩ := hSh i
        exact hdone _ _ _ (H.2 v0 hv0) j this
      · rcases H with ⟨v, _, hk⟩ | ⟨_, V, b, _, hk⟩
        · exact hdone _ _ _ hk j this
        · exact hdone _ _ _ (hk 0) j this
  | succ f ih =>
    intro listed a m inv hmore hfree hr H
    obtain ⟨hun, oi', hoi', halli⟩ := mem_ready.1 hr
    have hoe : oi' = oi := Option.some.inj (hoi'.symm.trans hi)
    subst hoe
    refine ⟨fun h => (by rw [h] at hr; cases hr), fun j hj => ?_⟩
    have hjn := hw listed inv hmore ⟨i, hihl, hilt, hun⟩ j hj
    refine ⟨hjn, ?_⟩
    by_cases hji : j = i
    · subst hji; exact self H
    · obtain ⟨hjun, oj, hoj, hall⟩ := mem_ready.1 hj
      have hnot : ∀ e ∈ oj.after, Region.binds md e = true → e.on ≠ i := fun e he hb heq => by
        have h1 := hall e he hb
        rw [heq, getD_both hun] at h1
        cases h1
      have haj : ancB md ops ops.size j i = false := by
        cases h : ancB md ops ops.size j i with
        | false => rfl
        | true =>
          have := anc_listed inv.closed _ j oj hoj hall h
          rw [getD_both hun] at this
          cases this
      have hai : ancB md ops ops.size i j = false := by
        cases h : ancB md ops ops.size i j with
        | false => rfl
        | true =>
          have := anc_listed inv.closed _ i oi' hi halli h
          rw [getD_both hjun] at this
          cases this
      have h1 : stepT P md ops mk R Sh T S h0 i oi' (fun a' m' => tOp P md ops mk R Sh T S h0 j (wpAnyT P md ops mk R Sh T S h0 hl tl L f ((listed.setIfInBounds i true).setIfInBounds j true)) a' m') a m := stepT_mono (fun a' m' h' => (h'.2 j (ready_mono hj hji)).2) H
      have h2 := tOp_put hSh hLo hS hji hoj (hfree j oj hoj hji hjun hnot) haj hai (fun cs b => hsel i oi' cs b hi) (fun cs b => hsel j oj cs b hoj) h1
      have hfree' : ∀ k ok, ops[k]? = some ok → k ≠ i → (listed.setIfInBounds j true).getD k true = false →
          (∀ e ∈ ok.after, Region.binds md e = true → e.on ≠ i) → oi'.apart ops ok = true := fun k ok hk hki hun hno => by
        refine hfree k ok hk hki ?_ hno
        by_cases hjk : j = k
        · subst hjk; exact hjun
        · rw [getD_set_ne true hjk] at hun; exact hun
      refine tOp_mono (fun a' m' h3 => ih (listed.setIfInBounds j true) a' m' (inv.set hj hjn.2) (fun k hk => more_set hmore k hk) hfree' (ready_mono hr (Ne.symm hji)) ?_) h2
      rw [Array.setIfInBounds_comm _ _ hji]
      exact h3
/-- Operations in an order of ours. -/
def wpTold (P : Program) (md : Region.Mode) (ops : Array Oper) (mk : Bool) (R : Nat → World → World → Prop) (Sh : Nat → Value → Prop) (T : Nat → Option FactM) (S : World → Prop) (h0 : Nat) (Q : Act → Known → Prop) : List Nat → Act → Known → Prop
  | [], a, m => Q a m
  | i :: rest, a, m => match ops[i]? with
    | some o => stepT P md ops mk R Sh T S h0 i o (wpTold P md ops mk R Sh T S h0 Q rest) a m
    | none => False
def seqL (md : Region.Mode) (ops : Array Oper) : List Nat → Array Bool → Bool
  | [], listed => (Region.ready md ops listed).isEmpty
  | t :: ts, listed => decide (Region.ready md ops listed = [t]) && seqL md ops ts (listed.setIfInBounds t true)
def lexL (md : Region.Mode) (ops : Array Oper) (tl : List Nat) : List Nat → Array Bool → Bool
  | [], listed => seqL md ops tl listed
  | i :: rest, listed => (Region.ready md ops listed).contains i && Region.free md ops listed i && lexL md ops tl rest (listed.setIfInBounds i true)
theorem wpAny_of_seqL {Q' : Exit → Act → World → Prop} : ∀ (tl : List Nat) (listed : Array Bool) (a : Act) (w : World),
    seqL md ops tl listed = true → wpList P ops Q' (tl.filterMap fun t => ops[t]?) a w → wpAny P md ops Q' tl.length listed a w
  | [], _, _, _, hB, h => ⟨by simpa [seqL] using hB, h⟩
  | t :: ts, listed, a, w, hB, h => by
    simp only [seqL, Bool.and_eq_true, decide_eq_true_eq] at hB
    obtain ⟨_, o, ho, _⟩ := mem_ready.1 (show t ∈ Region.ready md ops listed by rw [hB.1]; exact List.mem_cons_self)
    refine ⟨fun h1 => (by rw [hB.1] at h1; cases h1), fun i hi => ?_⟩
    rw [hB.1] at hi
    have hik : i = t := by simpa using hi
    subst hik
    rw [List.filterMap_cons_some ho] at h
    have hw : wpOp P ops Q' i (wpList P ops Q' (ts.filterMap fun t => ops[t]?)) a w := by unfold wpOp; simp only [ho]; exact h
    exact wpOp_mono (fun a' w' h' => wpAny_of_seqL ts _ a' w' hB.2 h') hw
theorem seqL_ready {tl : List Nat} {listed : Array Bool} (h : seqL md ops tl listed = true) : ∀ j ∈ Region.ready md ops listed, j ∈ tl := by
  cases tl with
  | nil => intro j hj; simp only [seqL, List.isEmpty_iff] at h; rw [h] at hj; cases hj
  | cons t ts =>
    intro j hj
    simp only [seqL, Bool.and_eq_true, decide_eq_true_eq] at h
    rw [h.1] at hj
    have : j = t := by simpa using hj
    rw [this]
    exact List.mem_cons_self
theorem wpAnyT_lex {T : Nat → Option FactM} (hSh : ∀ i, ∃ v, Sh i v) (hLo : Loc md ops T) {w0 : World} (hS : S w0) {hl tl : List Nat} {listed0 : Array Bool} {Lq : Act → Known → Prop} (hsel : Region.noSelect ops = true) (hw : WaitsT md ops hl tl listed0) (hdis : ∀ i ∈ hl, i ∉ tl) :
    ∀ (l : List Nat) (listed : Array Bool) (a : Act) (m : Known), (∀ i ∈ l, i ∈ hl) → HeadT md ops tl listed → (∀ j, listed0.getD j true = true → listed.getD j true = true) → lexL md ops tl l listed = true → wpTold P md ops mk R Sh T S h0 Lq l a m →
    wpAnyT P md ops mk R Sh T S h0 hl tl (fun listed' a' m' => seqL md ops tl listed' = true ∧ Lq a' m') l.length listed a m
  | [], listed, a, m, _, inv, _, hB, h => ⟨by simpa [lexL] using hB, h⟩
  | i :: l, listed, a, m, hsub, inv, hmore, hB, h => by
    simp only [lexL, Bool.and_eq_true] at hB
    obtain ⟨⟨hr, hf⟩, hB'⟩ := hB
    have hr' : i ∈ Region.ready md ops listed := by simpa using hr
    obtain ⟨_, o, ho, _⟩ := mem_ready.1 hr'
    simp only [wpTold, ho] at h
    have hi := hsub i List.mem_cons_self
    exact wpAnyT_first hSh hLo hS ho hi (hdis i hi) (Region.noSelect_spec hsel) hw (fun listed' a' m' hL => seqL_ready hL.1) l.length listed a m inv hmore (Region.free_spec ho hf) hr'
      (stepT_mono (fun a' m' h' => wpAnyT_lex hSh hLo hS hsel hw hdis l _ a' m' (fun k hk => hsub k (List.mem_cons_of_mem _ hk)) (inv.set hr' (hdis i hi)) (fun k hk => more_set hmore k hk) hB' h') h)
/-- What is listed is listed with all that it waits for. -/
def closedB (md : Region.Mode) (ops : Array Oper) (listed : Array Bool) : Bool :=
  (List.range ops.size).all fun j => !listed.getD j false || ((ops[j]?).map (·.after.all fun e => !Region.binds md e || listed.getD e.on false)).getD true
theorem closedB_spec {listed : Array Bool} (h : closedB md ops listed = true) : Closed md ops listed := by
  intro j oj hj hl e he hb
  have h1 := List.all_eq_true.1 h j (List.mem_range.2 (Array.getElem?_eq_some_iff.1 hj).1)
  simp only [hl, hj, Bool.not_true, Bool.false_or, Option.map_some, Option.getD_some] at h1
  have h2 := Array.all_eq_true_iff_forall_mem.1 h1 e he
  simp only [hb, Bool.not_true, Bool.false_or] at h2
  exact h2
def toldB (md : Region.Mode) (ops : Array Oper) (hl tl : List Nat) (listed : Array Bool) : Bool :=
  Region.noSelect ops && decide (listed.size = ops.size) && closedB md ops listed && ((List.range ops.size).all fun i => listed.getD i true || hl.contains i || tl.contains i) && (hl.all fun i => !tl.contains i) &&
    (match tl with | t0 :: _ => sinkL md ops t0 hl | [] => true) && chainL md ops tl && (tl.all fun t => decide (t < ops.size) && !listed.getD t true) && lexL md ops tl hl listed
/-- The rule, from any place on. hl: the head's operations, in an order of ours; tl: the tail's. -/
theorem wpAny_told {Q : Exit → Act → World → Prop} {a : Act} {w : World} {n : Nat} {listed : Array Bool} (T : Nat → Option FactM) (S : World → Prop) (h0 : Nat) (hl tl : List Nat) (Sh : Nat → Value → Prop) (hSh : ∀ i, ∃ v, Sh i v) (hLo : Loc md ops T) (hT : Stable T) (hLv : Lives S) (R : Nat → World → World → Prop) (hR : Turns mk R S h0 T) (hn : hl.length + tl.length = n) (hB : toldB md ops hl tl listed = true)
    (hS : S w) (hh : h0 ≤ w.heap.size)
    (h : wpTold P md ops mk R Sh T S h0 (fun a' m' => ∀ w', Holds mk S h0 T m' w' → wpList P ops Q (tl.filterMap fun t => ops[t]?) a' w') hl a Known.none) : wpAny P md ops Q n listed a w := by
  simp only [toldB, Bool.and_eq_true, decide_eq_true_eq] at hB
  obtain ⟨⟨⟨⟨⟨⟨⟨⟨hsel, hlen⟩, hclo⟩, hcov⟩, hdis⟩, hsink⟩, hchain⟩, htl⟩, hlex⟩ := hB
  have hdis' : ∀ i ∈ hl, i ∉ tl := fun i hi ht => by
    have := List.all_eq_true.1 hdis i hi
    simp [ht] at this
  have htl' : ∀ t ∈ tl, t < ops.size ∧ listed.getD t true = false := fun t ht => by
    have := List.all_eq_true.1 htl t ht
    simpa using this
  -- what is listed at the start stays listed: an invariant on the lists that are met
  have inv0 : HeadT md ops tl listed := ⟨hlen, closedB_spec hclo, fun t ht _ => (htl' t ht).2⟩
  have hw : WaitsT md ops hl tl listed := by
    intro listed' inv hmore hex j hj
    obtain ⟨i, hi, hilt, hun⟩ := hex
    obtain ⟨hjun, oj, hoj, _⟩ := mem_ready.1 hj
    have hjlt : j < ops.size := (Array.getElem?_eq_some_iff.1 hoj).1
    have hnt : j ∉ tl := by
      intro hjt
      have hall : ∀ t ∈ tl, listed'.getD t true = false := fun t ht => inv.tail t ht (htl' t ht).1
      cases htl2 : tl with
      | nil => rw [htl2] at hjt; cases hjt
      | cons t0 ts =>
        rw [htl2] at hjt hsink hchain hall
        rcases List.mem_cons.1 hjt with rfl | hjt
        · exact head_waits (hall j List.mem_cons_self) inv.closed inv.size hl hsink i hi hilt hun hj
        · exact chain_waits (t0 :: ts) hall hchain j hjt hj
    refine ⟨?_, hnt⟩
    have := List.all_eq_true.1 hcov j (List.mem_range.2 hjlt)
    simp only [Bool.or_eq_true, List.contains_iff_mem] at this
    rcases this with (h | h) | h
    · have := hmore j h
      rw [hjun] at this
      cases this
    · exact h
    · exact absurd h hnt
  have H := wpAnyT_lex hSh hLo hS hsel hw hdis' hl _ a Known.none (fun i hi => hi) inv0 (fun _ h => h) hlex h
  have := wpAny_of_told (h0 := h0) hLv hT hR (Q' := Q) (g := tl.length) (fun listed a' m' w' hS' hL => wpAny_of_seqL tl listed a' w' hL.1 (hL.2 w' hS')) _ _ _ _ _ ⟨hS, hh, fun i g o hm => (by cases hm), fun i F hF => (by cases hF), fun _ => rfl⟩ H
  rw [hn] at this
  exact this
/-- The rule for a region. -/
theorem wp_region_told {id : Nat} {Q : Exit → Act → World → Prop} {a : Act} {w : World} {l : List Oper} (T : Nat → Option FactM) (S : World → Prop) (h0 : Nat) (hl tl : List Nat) (Sh : Nat → Value → Prop) (hSh : ∀ i, ∃ v, Sh i v) (hLo : Loc .any l.toArray T) (hT : Stable T) (hLv : Lives S) (R : Nat → World → World → Prop) (hR : Turns mk R S h0 T) (hm : P.follows .mixedOrders = true) (hn : hl.length + tl.length = l.toArray.size) (hB : toldB .any l.toArray hl tl (Array.replicate l.toArray.size false) = true)
    (hS : S { w with drawn := w.drawn + 1 }) (hh : h0 ≤ w.heap.size)
    (h : wpTold P .any l.toArray mk R Sh T S h0 (fun a' m' => ∀ w', Holds mk S h0 T m' w' → wpList P l.toArray Q (tl.filterMap fun t => l.toArray[t]?) a' w') hl a Known.none) : (Code.region id l.toArray true).wp P Q a w :=
  wp_region_any hm (wpAny_told T S h0 hl tl Sh hSh hLo hT hLv R hR hn hB hS hh h)
/-- What was there when the region began is as it was. -/
def Up (w0 w' : World) : Prop := Below w0.heap.size w0 w'
theorem Up.lives (w0 : World) : Lives (Up w0) := fun _ _ h hb => Below.trans h (hb.mono h.size)
theorem Up.start (w0 : World) : Up w0 { w0 with drawn := w0.drawn + 1 } := (Below.refl w0.heap.size w0).drew
/-! ### tables of facts and of shapes -/
def StableF (Φ : FactM) : Prop := ∀ (m : Known) (v : Value) (w w' : World), Φ m v w → Below w.heap.size w w' → Φ m v w'
def LocF (md : Region.Mode) (ops : Array Oper) (i : Nat) (Φ : FactM) : Prop := ∀ m m', Same md ops i m m' → Φ m' = Φ m
def tab (l : List (Nat × FactM)) : Nat → Option FactM := fun i => (l.find? (·.1 == i)).map (·.2)
theorem tab_stable {l : List (Nat × FactM)} (h : ∀ p ∈ l, StableF p.2) : Stable (tab l) := by
  intro i Φ hi m v w w' hv hb
  unfold tab at hi
  obtain ⟨p, hp, rfl⟩ := Option.map_eq_some_iff.1 hi
  exact h p (List.mem_of_find?_eq_some hp) m v w w' hv hb
theorem tab_loc {md : Region.Mode} {ops : Array Oper} {l : List (Nat × FactM)} (h : ∀ p ∈ l, LocF md ops p.1 p.2) : Loc md ops (tab l) := by
  intro i Φ hi m m' hs
  unfold tab at hi
  obtain ⟨p, hp, rfl⟩ := Option.map_eq_some_iff.1 hi
  have e : p.1 = i := by have := List.find?_some hp; simpa using this
  subst e
  exact h p (List.mem_of_find?_eq_some hp) m m' hs
def shp (l : List (Nat × (Value → Prop))) : Nat → Value → Prop := fun i v => match l.find? (·.1 == i) with
  | some p => p.2 v
  | none => True
theorem shp_some {l : List (Nat × (Value → Prop))} (h : ∀ p ∈ l, ∃ v, p.2 v) : ∀ i, ∃ v, shp l i v := by
  intro i
  unfold shp
  split
  · rename_i p hp
    exact h p (List.mem_of_find?_eq_some hp)
  · exact ⟨undef, trivial⟩
theorem IsSl.some (n : Nat) : ∃ v, IsSl n v := ⟨.slice Option.none n 0, _, _, rfl⟩
/-- Just this value. -/
def IsV (c : Value) (v : Value) : Prop := v = c
theorem IsV.some (c : Value) : ∃ v, IsV c v := ⟨c, rfl⟩
/-- Nothing is told of the world. -/
def NoF : FactM := fun _ _ _ => True
theorem NoF.stable : StableF NoF := fun _ _ _ _ _ _ => trivial
theorem NoF.loc {md : Region.Mode} {ops : Array Oper} {i : Nat} : LocF md ops i NoF := fun _ _ _ => rfl
/-! ### the steps, in the text's order -/
variable {T : Nat → Option FactM}
def wpToldL (P : Program) (md : Region.Mode) (ops : Array Oper) (mk : Bool) (R : Nat → World → World → Prop) (Sh : Nat → Value → Prop) (T : Nat → Option FactM) (S : World → Prop) (h0 : Nat) (Q : Act → Known → Prop) : Nat → List Oper → Act → Known → Prop
  | _, [], a, m => Q a m
  | i, o :: rest, a, m => stepT P md ops mk R Sh T S h0 i o (wpToldL P md ops mk R Sh T S h0 Q (i + 1) rest) a m
theorem wpTold_of_list {Q : Act → Known → Prop} : ∀ (l : List Oper) (i : Nat) (a : Act) (m : Known), (∀ j, j < l.length → ops[i + j]? = l[j]?) → wpToldL P md ops mk R Sh T S h0 Q i l a m → wpTold P md ops mk R Sh T S h0 Q (List.range' i l.length) a m
  | [], _, _, _, _, h => h
  | o :: l, i, a, m, hl, h => by
    have h0 : ops[i]? = some o := by simpa using hl 0 (by simp)
    rw [List.length_cons, List.range'_succ]
    simp only [wpTold, h0]
    exact stepT_mono (fun a' m' h' => wpTold_of_list l (i + 1) a' m' (fun j hj => by have := hl (j + 1) (by simp; omega); simpa [Nat.add_assoc, Nat.add_comm 1 j] using this) h') h
theorem filter_range' (l : List Oper) : ∀ (k n : Nat), n + k = l.length → ((List.range' n k).filterMap fun t => l.toArray[t]?) = l.drop n := by
  intro k
  induction k with
  | zero => intro n h; rw [show n = l.length by omega]; simp
  | succ k ih =>
    intro n h
    rw [List.range'_succ]
    have hn : n < l.length := by omega
    rw [List.filterMap_cons_some (b := l[n]) (by simp [hn]), ih (n + 1) (by omega)]
    exact (List.drop_eq_getElem_cons hn).symm
/-- The rule, in the text's order: the first n operations are the head. -/
theorem wp_region_toldL {id : Nat} {Q : Exit → Act → World → Prop} {a : Act} {w : World} {l : List Oper} (T : Nat → Option FactM) (S : World → Prop) (h0 n : Nat) (Sh : Nat → Value → Prop) (hSh : ∀ i, ∃ v, Sh i v) (hLo : Loc .any l.toArray T) (hT : Stable T) (hLv : Lives S) (R : Nat → World → World → Prop) (hR : Turns mk R S h0 T) (hm : P.follows .mixedOrders = true) (hB : (decide (n ≤ l.length) && toldB .any l.toArray (List.range' 0 n) (List.range' n (l.length - n)) (Array.replicate l.toArray.size false)) = true)
    (hS : S { w with drawn := w.drawn + 1 }) (hh : h0 ≤ w.heap.size)
    (h : wpToldL P .any l.toArray mk R Sh T S h0 (fun a' m' => ∀ w', Holds mk S h0 T m' w' → wpList P l.toArray Q (l.drop n) a' w') 0 (l.take n) a Known.none) : (Code.region id l.toArray true).wp P Q a w := by
  simp only [Bool.and_eq_true, decide_eq_true_eq] at hB
  obtain ⟨hn, hB⟩ := hB
  refine wp_region_told T S h0 (List.range' 0 n) (List.range' n (l.length - n)) Sh hSh hLo hT hLv R hR hm (by simp; omega) hB hS hh ?_
  have h1 := wpTold_of_list (ops := l.toArray) (l.take n) 0 a Known.none (fun j hj => by rw [List.length_take] at hj; rw [Nat.zero_add, List.getElem?_toArray, List.getElem?_take, if_pos (by omega)]) h
  rw [List.length_take, Nat.min_eq_left hn] at h1
  rw [filter_range' l (l.length - n) n (by omega)]
  exact h1
theorem wpTold_nil {Q : Act → Known → Prop} {i : Nat} {a : Act} {m : Known} (h : Q a m) : wpToldL P md ops mk R Sh T S h0 Q i [] a m := h
theorem wpTold_read {Q : Act → Known → Prop} {i : Nat} {a : Act} {m : Known} {o : Oper} {rest : List Oper} (v : Value) (hT : T i = none) (hw : Region.wanted o (yielded ops a.tmps) = true)
    (h : ∀ w, S w → (execOp a.eval o).run P w = .ok (.value v) w) (k : wpToldL P md ops mk R Sh T S h0 Q (i + 1) rest (a.put o.dst v) m) : wpToldL P md ops mk R Sh T S h0 Q i (o :: rest) a m := by
  simp only [wpToldL, stepT, hT]
  exact .inl ⟨v, .inl ⟨hw, fun w hS => by rw [h w hS]; exact ⟨rfl, rfl⟩⟩, k⟩
theorem wpTold_skip {Q : Act → Known → Prop} {i : Nat} {a : Act} {m : Known} {o : Oper} {rest : List Oper} (hT : T i = none) (hw : Region.wanted o (yielded ops a.tmps) = false)
    (k : wpToldL P md ops mk R Sh T S h0 Q (i + 1) rest (a.put o.dst undef) m) : wpToldL P md ops mk R Sh T S h0 Q i (o :: rest) a m := by
  simp only [wpToldL, stepT, hT]
  exact .inl ⟨undef, .inr ⟨hw, rfl⟩, k⟩
theorem wpTold_make {R : Nat → World → World → Prop} {Q : Act → Known → Prop} {i : Nat} {a : Act} {m : Known} {o : Oper} {rest : List Oper} (V : Option (Nat × Nat)) (b : Obj) (hT : T i = none) (hw : Region.wanted o (yielded ops a.tmps) = true)
    (h : ∀ w, S w → (execOp a.eval o).run P w = .ok (.value (shapeV V w.heap.size)) (w.alloc b)) (k : ∀ g, wpToldL P md ops true R Sh T S h0 Q (i + 1) rest (a.put o.dst (shapeV V g)) (m.make i g b)) : wpToldL P md ops true R Sh T S h0 Q i (o :: rest) a m := by
  simp only [wpToldL, stepT, hT]
  exact .inr ⟨trivial, V, b, ⟨hw, h⟩, k⟩
/-- What tells a fact, without a call. -/
theorem wpTold_tell {Q : Act → Known → Prop} {i : Nat} {a : Act} {m : Known} {o : Oper} {rest : List Oper} (Φ : FactM) (hT : T i = some Φ) (hw : Region.wanted o (yielded ops a.tmps) = true)
    (h : ∀ w, S w → h0 ≤ w.heap.size → Seen md ops T h0 i m w → ∃ v' w', (execOp a.eval o).run P w = .ok (.value v') w' ∧ (Sh i v' ∧ Φ m v' w') ∧ R i w w')
    (k : ∀ v, Sh i v → wpToldL P md ops mk R Sh T S h0 Q (i + 1) rest (a.put o.dst v) (m.told i v (Φ m v))) : wpToldL P md ops mk R Sh T S h0 Q i (o :: rest) a m := by
  simp only [wpToldL, stepT, hT]
  exact ⟨⟨hw, fun w hS hh hs => by obtain ⟨v', w', e, h1, h2⟩ := h w hS hh hs; rw [e]; exact ⟨h1, h2⟩⟩, k⟩
/-- A store that tells a fact. -/
theorem wpTold_store {Q : Act → Known → Prop} {i : Nat} {a : Act} {m : Known} {o : Oper} {rest : List Oper} (Φ : FactM) (hT : T i = some Φ) (hw : Region.wanted o (yielded ops a.tmps) = true)
    (h : ∀ w, S w → h0 ≤ w.heap.size → Seen md ops T h0 i m w → ∃ w', (execOp a.eval o).run P w = .ok .skip w' ∧ (Sh i undef ∧ Φ m undef w') ∧ R i w w')
    (k : ∀ v, Sh i v → wpToldL P md ops mk R Sh T S h0 Q (i + 1) rest (a.put o.dst v) (m.told i v (Φ m v))) : wpToldL P md ops mk R Sh T S h0 Q i (o :: rest) a m := by
  simp only [wpToldL, stepT, hT]
  exact ⟨⟨hw, fun w hS hh hs => by obtain ⟨w', e, h1, h2⟩ := h w hS hh hs; rw [e]; exact ⟨h1, h2⟩⟩, k⟩
/-- A call. -/
theorem wpTold_call {Q : Act → Known → Prop} {i : Nat} {a : Act} {m : Known} {o : Oper} {rest : List Oper} (Φ : FactM) (f : FuncId) (args : Array Value) (hT : T i = some Φ) (hw : Region.wanted o (yielded ops a.tmps) = true)
    (h : ∀ w, (execOp a.eval o).run P w = .ok (.enter f args) w) (hc : ∀ w, S w → h0 ≤ w.heap.size → Seen md ops T h0 i m w → Calls P f args w fun e w'' => ∃ u, e = .returned u ∧ (Sh i u ∧ Φ m u w'') ∧ R i w w'')
    (k : ∀ v, Sh i v → wpToldL P md ops mk R Sh T S h0 Q (i + 1) rest (a.put o.dst v) (m.told i v (Φ m v))) : wpToldL P md ops mk R Sh T S h0 Q i (o :: rest) a m := by
  simp only [wpToldL, stepT, hT]
  exact ⟨⟨hw, fun w hS hh hs => by rw [h w]; exact hc w hS hh hs⟩, k⟩
end
/-! ### a variable's block that is made and written in the region -/
/-- A block of three cells, made in the region. -/
def AllocF (h0 : Nat) (t : TypeId) : FactM := fun _ v w => ∃ g c0 c1 c2, v = .pointer (some ⟨g, 0, none⟩) ∧ h0 ≤ g ∧ w.heap[g]? = some (.cells #[c0, c1, c2] t (0, 0))
theorem AllocF.stable {h0 : Nat} {t : TypeId} : StableF (AllocF h0 t) := by
  rintro m v w w' ⟨g, c0, c1, c2, e, hg, hb⟩ h
  exact ⟨g, c0, c1, c2, e, hg, (h.block g (lt_of_block hb)).trans hb⟩
theorem AllocF.loc {h0 : Nat} {t : TypeId} {md : Region.Mode} {ops : Array Oper} {i : Nat} : LocF md ops i (AllocF h0 t) := fun _ _ _ => rfl
/-- The block that operation i made holds these. -/
def StoreF (i : Nat) (t : TypeId) (cs : Array Value) : FactM := fun m _ w => ∀ g, m.vl i = some (.pointer (some ⟨g, 0, none⟩)) → w.heap[g]? = some (.cells cs t (0, 0))
theorem StoreF.stable {i : Nat} {t : TypeId} {cs : Array Value} : StableF (StoreF i t cs)   := fun _ _ _ _ h hb g hg => (hb.block g (lt_of_block (h g hg))).trans (h g hg)
theorem StoreF.loc {i k : Nat} {t : TypeId} {cs : Array Value} {md : Region.Mode} {ops : Array Oper} (h : ancB md ops ops.size k i = true) : LocF md ops k (StoreF i t cs) := by
  intro m m' hs
  funext v w
  unfold StoreF
  rw [(hs i h).1]
def put3 (w : World) (g : Nat) (u0 u1 u2 : Value) : World := ((w.setCell ⟨g, 0, none⟩ u0).setCell ⟨g, 1, none⟩ u1).setCell ⟨g, 2, none⟩ u2
/-- Operation k writes three cells of a block from h0 on; the others only make memory. -/
def StR (k h0 : Nat) (u0 u1 u2 : Value) : Nat → World → World → Prop := fun i w w' => if i = k then ∃ g, h0 ≤ g ∧ w' = put3 w g u0 u1 u2 else Below w.heap.size w w'
theorem AllocF.put {h0 : Nat} {t : TypeId} {m : Known} {v : Value} {w : World} (h : AllocF h0 t m v w) (g : Nat) (u0 u1 u2 : Value) : AllocF h0 t m v (put3 w g u0 u1 u2) := by
  obtain ⟨g', c0, c1, c2, e, hg, hb⟩ := h
  by_cases hgg : g' = g
  · subst hgg
    refine ⟨g', u0, u1, u2, e, hg, ?_⟩
    have h3 : Blk w g' t #[c0, c1, c2] := hb
    have h4 := ((h3.put 0 u0).put 1 u1).put 2 u2
    have h5 : Blk (put3 w g' u0 u1 u2) g' t #[u0, u1, u2] := by
      unfold put3
      simpa using h4
    exact h5
  · refine ⟨g', c0, c1, c2, e, hg, ?_⟩
    have h3 : Blk w g' t #[c0, c1, c2] := hb
    exact ((h3.far (p := ⟨g, 0, none⟩) hgg u0).far (p := ⟨g, 1, none⟩) hgg u1).far (p := ⟨g, 2, none⟩) hgg u2
theorem StR.turns {w0 : World} {T : Nat → Option FactM} (hT : Stable T) {k : Nat} {u0 u1 u2 : Value} (hk : ∀ i Φ, i ≠ k → T i = some Φ → ∀ m v w g, Φ m v w → w0.heap.size ≤ g → Φ m v (put3 w g u0 u1 u2)) : Turns false (StR k w0.heap.size u0 u1 u2) (Up w0) w0.heap.size T where
  s := fun i w w' hs hr => by
    unfold StR at hr
    split at hr
    · obtain ⟨g, hg, rfl⟩ := hr
      exact ((Below.setCell hs (p := ⟨g, 0, none⟩) hg _).setCell (p := ⟨g, 1, none⟩) hg _).setCell (p := ⟨g, 2, none⟩) hg _
    · exact Up.lives w0 _ _ hs hr
  size := fun i w w' hr => by
    unfold StR at hr
    split at hr
    · obtain ⟨g, hg, rfl⟩ := hr
      simp [put3]
    · exact hr.size
  block := fun h => by cases h
  told := fun i j Φ hij hΦ m v w w' hv hr => by
    unfold StR at hr
    split at hr
    · rename_i e
      obtain ⟨g, hg, rfl⟩ := hr
      exact hk j Φ (fun e' => hij (e.trans e'.symm)) hΦ m v w g hv hg
    · exact hT j Φ hΦ m v _ _ hv hr
end Go.Proofs.YticljmgcgjibpaaGreatDoor.M

/-
  The walk of chanceryref24.Fold: the values of the rows are gathered. Conditions: what is read reads as a tree, and as rows.
-/
namespace Go.Proofs.YticljmgcgjibpaaGreatDoor
open Go.RowKit

set_option maxRecDepth 1000000 in
theorem Fr.open148 {a : Act} {l : List (Nat × Value)} (h : Fr 148 a l) : ∃ f : Nat → Value, a = ⟨#[f 0, f 1, f 2, f 3, f 4, f 5, f 6, f 7, f 8, f 9, f 10, f 11, f 12, f 13, f 14, f 15, f 16, f 17, f 18, f 19, f 20, f 21, f 22, f 23, f 24, f 25, f 26, f 27, f 28, f 29, f 30, f 31, f 32, f 33, f 34, f 35, f 36, f 37, f 38, f 39, f 40, f 41, f 42, f 43, f 44, f 45, f 46, f 47, f 48, f 49, f 50, f 51, f 52, f 53, f 54, f 55, f 56, f 57, f 58, f 59, f 60, f 61, f 62, f 63, f 64, f 65, f 66, f 67, f 68, f 69, f 70, f 71, f 72, f 73, f 74, f 75, f 76, f 77, f 78, f 79, f 80, f 81, f 82, f 83, f 84, f 85, f 86, f 87, f 88, f 89, f 90, f 91, f 92, f 93, f 94, f 95, f 96, f 97, f 98, f 99, f 100, f 101, f 102, f 103, f 104, f 105, f 106, f 107, f 108, f 109, f 110, f 111, f 112, f 113, f 114, f 115, f 116, f 117, f 118, f 119, f 120, f 121, f 122, f 123, f 124, f 125, f 126, f 127, f 128, f 129, f 130, f 131, f 132, f 133, f 134, f 135, f 136, f 137, f 138, f 139, f 140, f 141, f 142, f 143, f 144, f 145, f 146, f 147], []⟩ ∧ slots a l ∧ ∀ i, a.tmps.getD i undef = f i := by
  obtain ⟨t, d⟩ := a
  obtain ⟨h1, h2, h3⟩ := h
  simp only at h1 h2
  subst h2
  have e : t = ((List.range 148).map fun i => t.getD i undef).toArray := by
    refine Array.ext (by simp [h1]) fun i h4 h5 => ?_
    simp [h4]
  have e2 : ((List.range 148).map fun i => t.getD i undef).toArray = (fun f : Nat → Value => #[f 0, f 1, f 2, f 3, f 4, f 5, f 6, f 7, f 8, f 9, f 10, f 11, f 12, f 13, f 14, f 15, f 16, f 17, f 18, f 19, f 20, f 21, f 22, f 23, f 24, f 25, f 26, f 27, f 28, f 29, f 30, f 31, f 32, f 33, f 34, f 35, f 36, f 37, f 38, f 39, f 40, f 41, f 42, f 43, f 44, f 45, f 46, f 47, f 48, f 49, f 50, f 51, f 52, f 53, f 54, f 55, f 56, f 57, f 58, f 59, f 60, f 61, f 62, f 63, f 64, f 65, f 66, f 67, f 68, f 69, f 70, f 71, f 72, f 73, f 74, f 75, f 76, f 77, f 78, f 79, f 80, f 81, f 82, f 83, f 84, f 85, f 86, f 87, f 88, f 89, f 90, f 91, f 92, f 93, f 94, f 95, f 96, f 97, f 98, f 99, f 100, f 101, f 102, f 103, f 104, f 105, f 106, f 107, f 108, f 109, f 110, f 111, f 112, f 113, f 114, f 115, f 116, f 117, f 118, f 119, f 120, f 121, f 122, f 123, f 124, f 125, f 126, f 127, f 128, f 129, f 130, f 131, f 132, f 133, f 134, f 135, f 136, f 137, f 138, f 139, f 140, f 141, f 142, f 143, f 144, f 145, f 146, f 147]) fun i => t.getD i undef := by kernel_rfl
  exact ⟨fun i => t.getD i undef, by conv => lhs; rw [e, e2], h3, fun i => rfl⟩
noncomputable def rfd : Nat → Code
  | 0 => Tryz.f16.body.getD .skip
  | n + 1 => cR (rfd n)
section
variable {o k : UInt8} {n N : Int} {s nm of role : ByteArray} {A Ar Al : Option Addr} {m c nr cr cl gX gR : Nat} {r l : List Cell.Val} {rs : List (List Cell.Val)} {ks : List Ev.Ex} {w w2 : World} {d : Nat}
set_option linter.unusedVariables false in
set_option maxRecDepth 1000000 in
set_option maxHeartbeats 4000000 in
theorem rfd_0 {Q : Exit → Act → World → Prop} {a : Act}  (hF : Fr 148 a [(0, .agg #[.int .u8 (o.toNat : Int), .int .u8 (k.toNat : Int), .int .i64 n, .string s, .string nm, .string of, .int .i64 N, .slice A m c]), (1, .slice Ar nr cr), (2, .string role)]) 
    (h : ∀ a' w' gX gR, Fr 148 a' [(1, .slice Ar nr cr), (2, .string role), (3, .pointer (some ⟨gX, 0, none⟩)), (6, .pointer (some ⟨gR, 0, none⟩))] → Blk w' gX 28 #[.int .u8 (o.toNat : Int), .int .u8 (k.toNat : Int), .int .i64 n, .string s, .string nm, .string of, .int .i64 N, .slice A m c] → Blk w' gR 25 #[.int .u8 0, .int .i64 0, .string ⟨#[]⟩] → w.heap.size ≤ gR → Below w.heap.size w w' → Q .normal a' w') : (cL (rfd 0)).wp Tryz.prog Q a w := by
  conv => arg 2; whnf
  obtain ⟨f, rfl, ⟨s0, s1, s2, _⟩, hfr⟩ := hF.open148
  rw [hfr] at s0 s1 s2
  rw [s0, s1, s2]
  clear hF hfr s0 s1 s2
  have H := hide h
  clear h
  obtain ⟨w1, hw1⟩ : ∃ x, x = (w.alloc (.cells #[.int .u8 (o.toNat : Int), .int .u8 (k.toNat : Int), .int .i64 n, .string s, .string nm, .string of, .int .i64 N, .slice A m c] 28)).alloc (.cells #[.int .u8 0, .int .i64 0, .string ⟨#[]⟩] 25) := ⟨_, rfl⟩
  have HX : Hid (Blk w1 w.heap.size 28 #[.int .u8 (o.toNat : Int), .int .u8 (k.toNat : Int), .int .i64 n, .string s, .string nm, .string of, .int .i64 N, .slice A m c]) := by rw [hw1]; exact (Blk.new w _ _).alloc _
  have HZ : Hid (Blk w1 (w.heap.size + 1) 25 #[.int .u8 0, .int .i64 0, .string ⟨#[]⟩]) := by
    rw [hw1]
    have := Blk.new (w.alloc (.cells #[.int .u8 (o.toNat : Int), .int .u8 (k.toNat : Int), .int .i64 n, .string s, .string nm, .string of, .int .i64 N, .slice A m c] 28)) 25 #[.int .u8 0, .int .i64 0, .string ⟨#[]⟩]
    exact hide (by simpa using this)
  have HB : Hid (Below w.heap.size w w1) := by
    rw [hw1]
    exact ((Below.refl _ _).alloc (Nat.le_refl _) _).alloc (by simp) _
  go_wp2_with fail
  rw [← hw1]
  refine H.out _ _ _ _ ?_ HX.out HZ.out (by omega) HB.out
  exact ⟨rfl, rfl, rfl, rfl, rfl, rfl, trivial⟩
set_option linter.unusedVariables false in
set_option maxRecDepth 1000000 in
set_option maxHeartbeats 4000000 in
theorem rfd_1 {Q : Exit → Act → World → Prop} {a : Act}  (hF : Fr 148 a [(1, .slice Ar nr cr), (2, .string role), (3, .pointer (some ⟨gX, 0, none⟩)), (6, .pointer (some ⟨gR, 0, none⟩))]) (hX : Blk w2 gX 28 #[.int .u8 (o.toNat : Int), .int .u8 (k.toNat : Int), .int .i64 n, .string s, .string nm, .string of, .int .i64 N, .slice A m c]) (hZ : Blk w2 gR 25 #[.int .u8 0, .int .i64 0, .string ⟨#[]⟩]) (hR : w.heap.size ≤ gR) (hB : Below w.heap.size w w2)
    (h0 : (o.toNat < 17 ∨ 20 < o.toNat ∨ 1 < m ∨ (m = 0 ∧ o.toNat ≠ 17)) → ∀ a' w' p, Fr 148 a' [(6, .pointer (some ⟨gR, 0, none⟩)), (7, .int .i64 (p.2 : Int))] → Fin w gR p w' → p = (Val.vz, 330) → Q .ret a' w') (h1 : ¬ (o.toNat < 17 ∨ 20 < o.toNat ∨ 1 < m ∨ (m = 0 ∧ o.toNat ≠ 17)) → ∀ a', Fr 148 a' [(1, .slice Ar nr cr), (2, .string role), (3, .pointer (some ⟨gX, 0, none⟩)), (6, .pointer (some ⟨gR, 0, none⟩))] → Q .normal a' w2) : (cL (rfd 1)).wp Tryz.prog Q a w2 := by
  conv => arg 2; whnf
  obtain ⟨f, rfl, ⟨s1, s2, s3, s6, _⟩, hfr⟩ := hF.open148
  rw [hfr] at s1 s2 s3 s6
  rw [s1, s2, s3, s6]
  clear hF hfr s1 s2 s3 s6
  have H0 := hide h0
  have H1 := hide h1
  clear h0 h1
  have HB := hide hB
  have HZ := hide hZ
  clear hB hZ
  have HX := hide hX
  have x0 := hX.cell 0
  have x1 := hX.cell 1
  have x2 := hX.cell 2
  have x3 := hX.cell 3
  have x4 := hX.cell 4
  have x5 := hX.cell 5
  have x6 := hX.cell 6
  have x7 := hX.cell 7
  simp at x0 x1 x2 x3 x4 x5 x6 x7
  clear hX
  by_cases hb : (o.toNat < 17 ∨ 20 < o.toNat ∨ 1 < m ∨ (m = 0 ∧ o.toNat ≠ 17))
  · have H := hide (H0.out hb)
    clear H0 H1
    by_cases c1 : o.toNat < 17
    · have t1 : decide ((o.toNat : Int) < 17) = true := decide_eq_true (by omega)
      have z0 := HZ.out.cell 0
      have z1 := HZ.out.cell 1
      have z2 := HZ.out.cell 2
      simp at z0 z1 z2
      have f0 := HZ.out.frozen 0
      have f1 := HZ.out.frozen 1
      have f2 := HZ.out.frozen 2
      have HF : Hid (Fin w gR (Val.vz, 330) (((w2.setCell ⟨gR, 0, none⟩ (.int .u8 0)).setCell ⟨gR, 1, none⟩ (.int .i64 0)).setCell ⟨gR, 2, none⟩ (.string ⟨#[]⟩))) := ⟨blk3 HZ.out _ _ _, below3 HB.out hR _ _ _⟩
      go_wp2_with fail
      refine H.out _ _ (Val.vz, 330) ?_ HF.out rfl
      exact ⟨rfl, rfl, rfl, rfl, trivial⟩
    · by_cases c2 : 20 < o.toNat
      · have t1 : decide ((o.toNat : Int) < 17) = false := decide_eq_false (by omega)
        have t2 : decide ((20 : Int) < (o.toNat : Int)) = true := decide_eq_true (by omega)
        have z0 := HZ.out.cell 0
        have z1 := HZ.out.cell 1
        have z2 := HZ.out.cell 2
        simp at z0 z1 z2
        have f0 := HZ.out.frozen 0
        have f1 := HZ.out.frozen 1
        have f2 := HZ.out.frozen 2
        have HF : Hid (Fin w gR (Val.vz, 330) (((w2.setCell ⟨gR, 0, none⟩ (.int .u8 0)).setCell ⟨gR, 1, none⟩ (.int .i64 0)).setCell ⟨gR, 2, none⟩ (.string ⟨#[]⟩))) := ⟨blk3 HZ.out _ _ _, below3 HB.out hR _ _ _⟩
        go_wp2_with fail
        refine H.out _ _ (Val.vz, 330) ?_ HF.out rfl
        exact ⟨rfl, rfl, rfl, rfl, trivial⟩
      · by_cases c3 : 1 < m
        · have t1 : decide ((o.toNat : Int) < 17) = false := decide_eq_false (by omega)
          have t2 : decide ((20 : Int) < (o.toNat : Int)) = false := decide_eq_false (by omega)
          have t3 : decide ((1 : Int) < (m : Int)) = true := decide_eq_true (by omega)
          have z0 := HZ.out.cell 0
          have z1 := HZ.out.cell 1
          have z2 := HZ.out.cell 2
          simp at z0 z1 z2
          have f0 := HZ.out.frozen 0
          have f1 := HZ.out.frozen 1
          have f2 := HZ.out.frozen 2
          have HF : Hid (Fin w gR (Val.vz, 330) (((w2.setCell ⟨gR, 0, none⟩ (.int .u8 0)).setCell ⟨gR, 1, none⟩ (.int .i64 0)).setCell ⟨gR, 2, none⟩ (.string ⟨#[]⟩))) := ⟨blk3 HZ.out _ _ _, below3 HB.out hR _ _ _⟩
          go_wp2_with fail
          refine H.out _ _ (Val.vz, 330) ?_ HF.out rfl
          exact ⟨rfl, rfl, rfl, rfl, trivial⟩
        · have c4 : m = 0 ∧ o.toNat ≠ 17 := by omega
          have t1 : decide ((o.toNat : Int) < 17) = false := decide_eq_false (by omega)
          have t2 : decide ((20 : Int) < (o.toNat : Int)) = false := decide_eq_false (by omega)
          have t3 : decide ((1 : Int) < (m : Int)) = false := decide_eq_false (by omega)
          have t4 : ((m : Int) == 0) = true := by simp; omega
          have t5 : ((o.toNat : Int) != 17) = true := by simp; omega
          have z0 := HZ.out.cell 0
          have z1 := HZ.out.cell 1
          have z2 := HZ.out.cell 2
          simp at z0 z1 z2
          have f0 := HZ.out.frozen 0
          have f1 := HZ.out.frozen 1
          have f2 := HZ.out.frozen 2
          have HF : Hid (Fin w gR (Val.vz, 330) (((w2.setCell ⟨gR, 0, none⟩ (.int .u8 0)).setCell ⟨gR, 1, none⟩ (.int .i64 0)).setCell ⟨gR, 2, none⟩ (.string ⟨#[]⟩))) := ⟨blk3 HZ.out _ _ _, below3 HB.out hR _ _ _⟩
          go_wp2_with fail
          refine H.out _ _ (Val.vz, 330) ?_ HF.out rfl
          exact ⟨rfl, rfl, rfl, rfl, trivial⟩
  · replace H1 := hide (H1.out hb)
    clear H0
    have t1 : decide ((o.toNat : Int) < 17) = false := decide_eq_false (by omega)
    have t2 : decide ((20 : Int) < (o.toNat : Int)) = false := decide_eq_false (by omega)
    have t3 : decide ((1 : Int) < (m : Int)) = false := decide_eq_false (by omega)
    by_cases c4 : m = 0
    · have t4 : ((m : Int) == 0) = true := by simp; omega
      have t5 : ((o.toNat : Int) != 17) = false := by simp; omega
      clear hb
      go_wp2_with fail
      refine H1.out _ ?_
      exact ⟨rfl, rfl, rfl, rfl, rfl, rfl, trivial⟩
    · have t4 : ((m : Int) == 0) = false := by simp; omega
      clear hb
      go_wp2_with fail
      refine H1.out _ ?_
      exact ⟨rfl, rfl, rfl, rfl, rfl, rfl, trivial⟩
set_option linter.unusedVariables false in
set_option maxRecDepth 1000000 in
set_option maxHeartbeats 4000000 in
theorem rfd_2 {Q : Exit → Act → World → Prop} {a : Act}  (hF : Fr 148 a [(1, .slice Ar nr cr), (2, .string role), (3, .pointer (some ⟨gX, 0, none⟩)), (6, .pointer (some ⟨gR, 0, none⟩))]) (hX : Blk w2 gX 28 #[.int .u8 (o.toNat : Int), .int .u8 (k.toNat : Int), .int .i64 n, .string s, .string nm, .string of, .int .i64 N, .slice A m c]) (hZ : Blk w2 gR 25 #[.int .u8 0, .int .i64 0, .string ⟨#[]⟩]) (hR : w.heap.size ≤ gR) (hB : Below w.heap.size w w2)
    (h0 : m = 0 → ∀ a' w' p, Fr 148 a' [(6, .pointer (some ⟨gR, 0, none⟩)), (7, .int .i64 (p.2 : Int))] → Fin w gR p w' → p = (⟨2, (nr : Int), ⟨#[]⟩⟩, 0) → Q .ret a' w') (h1 : m ≠ 0 → ∀ a', Fr 148 a' [(1, .slice Ar nr cr), (2, .string role), (3, .pointer (some ⟨gX, 0, none⟩)), (6, .pointer (some ⟨gR, 0, none⟩))] → Q .normal a' w2) : (cL (rfd 2)).wp Tryz.prog Q a w2 := by
  conv => arg 2; whnf
  obtain ⟨f, rfl, ⟨s1, s2, s3, s6, _⟩, hfr⟩ := hF.open148
  rw [hfr] at s1 s2 s3 s6
  rw [s1, s2, s3, s6]
  clear hF hfr s1 s2 s3 s6
  have H := hide h0
  have H1 := hide h1
  clear h0 h1
  have HB := hide hB
  have HZ := hide hZ
  clear hB hZ
  have HX := hide hX
  have x0 := hX.cell 0
  have x1 := hX.cell 1
  have x2 := hX.cell 2
  have x3 := hX.cell 3
  have x4 := hX.cell 4
  have x5 := hX.cell 5
  have x6 := hX.cell 6
  have x7 := hX.cell 7
  simp at x0 x1 x2 x3 x4 x5 x6 x7
  clear hX
  by_cases hm : m = 0
  · replace H := hide (H.out hm)
    have t4 : ((m : Int) == 0) = true := by simp; omega
    clear hm H1
    have z0 := HZ.out.cell 0
    have z1 := HZ.out.cell 1
    have z2 := HZ.out.cell 2
    simp at z0 z1 z2
    have f0 := HZ.out.frozen 0
    have f1 := HZ.out.frozen 1
    have f2 := HZ.out.frozen 2
    have HF : Hid (Fin w gR (⟨2, (nr : Int), ⟨#[]⟩⟩, 0) (((w2.setCell ⟨gR, 0, none⟩ (.int .u8 2)).setCell ⟨gR, 1, none⟩ (.int .i64 (nr : Int))).setCell ⟨gR, 2, none⟩ (.string ⟨#[]⟩))) := ⟨blk3 HZ.out _ _ _, below3 HB.out hR _ _ _⟩
    go_wp2_with fail
    refine H.out _ _ (⟨2, (nr : Int), ⟨#[]⟩⟩, 0) ?_ HF.out rfl
    exact ⟨rfl, rfl, rfl, rfl, trivial⟩
  · replace H1 := hide (H1.out hm)
    have t4 : ((m : Int) == 0) = false := by simp; omega
    clear hm H
    go_wp2_with fail
    refine H1.out _ ?_
    exact ⟨rfl, rfl, rfl, rfl, rfl, rfl, trivial⟩
set_option linter.unusedVariables false in
set_option maxRecDepth 1000000 in
set_option maxHeartbeats 4000000 in
theorem rfd_3 {Q : Exit → Act → World → Prop} {a : Act}  (hF : Fr 148 a [(1, .slice Ar nr cr), (2, .string role), (3, .pointer (some ⟨gX, 0, none⟩)), (6, .pointer (some ⟨gR, 0, none⟩))]) 
    (h : ∀ a', Fr 148 a' [(1, .slice Ar nr cr), (2, .string role), (3, .pointer (some ⟨gX, 0, none⟩)), (6, .pointer (some ⟨gR, 0, none⟩)), (8, .slice none 0 0)] → Q .normal a' w2) : (cL (rfd 3)).wp Tryz.prog Q a w2 := by
  conv => arg 2; whnf
  obtain ⟨f, rfl, ⟨s1, s2, s3, s6, _⟩, hfr⟩ := hF.open148
  rw [hfr] at s1 s2 s3 s6
  rw [s1, s2, s3, s6]
  clear hF hfr s1 s2 s3 s6
  have H := hide h
  clear h
  go_wp2_with fail
  refine H.out _ ?_
  exact ⟨rfl, rfl, rfl, rfl, rfl, rfl, rfl, trivial⟩
/-- What stands in the first loop. -/
def RfI1 (Ar : Option Addr) (nr cr : Nat) (role : ByteArray) (gX gR : Nat) (x : Ev.Ex) (rs : List (List Cell.Val)) (w2 : World) (gg : Nat) (a : Act) (wr : World) : Prop := ∃ (j : Nat) (l : List Cell.Val) (v : Value), j ≤ nr ∧ gg = nr - j ∧ Fr 148 a [(1, .slice Ar nr cr), (2, .string role), (3, .pointer (some ⟨gX, 0, none⟩)), (6, .pointer (some ⟨gR, 0, none⟩)), (8, v), (9, .int .i64 (j : Int))] ∧ Ev.colL x role (rs.take j) = (l, 0) ∧ (∀ u ∈ l, vOk u) ∧ l.length ≤ j ∧ wr.ownsRow w2.heap.size 25 3 v l.length (vcells l) ∧ Below w2.heap.size w2 wr
set_option linter.unusedVariables false in
set_option maxRecDepth 1000000 in
set_option maxHeartbeats 4000000 in
theorem rfd_4 {Q : Exit → Act → World → Prop} {a : Act} {x : Ev.Ex} (hF : Fr 148 a [(1, .slice Ar nr cr), (2, .string role), (3, .pointer (some ⟨gX, 0, none⟩)), (6, .pointer (some ⟨gR, 0, none⟩)), (8, .slice none 0 0)]) (hX : Blk w2 gX 28 #[.int .u8 (o.toNat : Int), .int .u8 (k.toNat : Int), .int .i64 n, .string s, .string nm, .string of, .int .i64 N, .slice A 1 c]) (hZ : Blk w2 gR 25 #[.int .u8 0, .int .i64 0, .string ⟨#[]⟩]) (hR : w.heap.size ≤ gR) (hB : Below w.heap.size w w2) (hex : ExK w2 (· < w2.heap.size) d A 1 ks) (hrs : Rws w2 (· < w2.heap.size) Ar nr rs) (hro : role.size ≤ 9223372036854775807) (hks : ks = [x])
    (h0 : ∀ a' w' p, Fr 148 a' [(6, .pointer (some ⟨gR, 0, none⟩)), (7, .int .i64 (p.2 : Int))] → Fin w gR p w' → p.2 ≠ 0 → p.1 = Val.vz → (∃ l, Ev.colL x role rs = (l, p.2)) → Q .ret a' w') (h1 : ∀ a' w' Al q cl l, Fr 148 a' [(1, .slice Ar nr cr), (2, .string role), (3, .pointer (some ⟨gX, 0, none⟩)), (6, .pointer (some ⟨gR, 0, none⟩)), (8, .slice Al q cl)] → Blk w' gX 28 #[.int .u8 (o.toNat : Int), .int .u8 (k.toNat : Int), .int .i64 n, .string s, .string nm, .string of, .int .i64 N, .slice A 1 c] → Blk w' gR 25 #[.int .u8 0, .int .i64 0, .string ⟨#[]⟩] → Below w.heap.size w w' → Ev.colL x role rs = (l, 0) → q = l.length → q ≤ nr → Rv w' w'.heap.size Al q l → Q .normal a' w') : (cL (rfd 4)).wp Tryz.prog Q a w2 := by
  conv => arg 2; whnf
  obtain ⟨f, rfl, ⟨s1, s2, s3, s6, s8, _⟩, hfr⟩ := hF.open148
  rw [hfr] at s1 s2 s3 s6 s8
  rw [s1, s2, s3, s6, s8]
  clear hF hfr s1 s2 s3 s6 s8
  have H := hide h0
  have H1 := hide h1
  clear h0 h1
  have HX := hide hX
  have HB := hide hB
  have HZ := hide hZ
  clear hB hZ
  clear hX
  have HRs := hide hrs
  have hrb := hrs.2.1
  have HRl := hide hrs.1
  obtain ⟨d', g, off, hd, ks', A', c', hdd, rfl, hg, hk0, y0, y1, y2, y3, y4, y5, y6, y7, e1, e2, hok, hex'⟩ := hex.at (i := 0) (by omega)
  rw [Nat.zero_mul, Nat.add_zero] at y0 y1 y2 y3 y4 y5 y6 y7
  have HY := hide (And.intro y0 (And.intro y1 (And.intro y2 (And.intro y3 (And.intro y4 (And.intro y5 (And.intro y6 y7)))))))
  have hxe : x = .mk hd ks' := by rw [hks] at hk0; injection hk0
  have HXe := hide hxe
  have HOk := hide hok
  have HEx := hide hex'
  clear hrs hex hks hk0 y0 y1 y2 y3 y4 y5 y6 y7 hok hex' hdd hxe
  go_wp2_with fail
  refine wp_loop_ghost (RfI1 Ar nr cr role gX gR x rs w2) nr ?_ ?_
  · refine ⟨0, [], .slice none 0 0, Nat.zero_le _, rfl, ?_, rfl, fun v h => absurd h (by simp), Nat.zero_le _, own_nil _ _ _ _, Below.refl _ _⟩
    exact ⟨rfl, rfl, rfl, rfl, rfl, rfl, rfl, rfl, trivial⟩
  rintro gg a w5 ⟨j, l, v, hj, rfl, hF, hT, hlo, hlj, ho, hbel⟩
  have HT := hide hT
  have HLo := hide hlo
  have HO := hide ho
  have HB25 := hide hbel
  have hs5 := hbel.size
  replace HB := hide (HB.out.trans (hbel.mono HB.out.size))
  replace HZ := hide (HZ.out.below hbel HZ.out.lt)
  replace HX := hide (HX.out.below hbel HX.out.lt)
  have hgx := HX.out.lt
  clear hT hlo ho hbel
  obtain ⟨f, rfl, ⟨s1, s2, s3, s6, s8, s9, _⟩, hfr⟩ := hF.open148
  rw [hfr] at s1 s2 s3 s6 s8 s9
  rw [s1, s2, s3, s6, s8, s9]
  clear hF hfr s1 s2 s3 s6 s8 s9
  by_cases hlt : j < nr
  · obtain ⟨gr, offr, rr, Ar', cr', rfl, hgr0, hrj, u0, k1, k2, hrv⟩ := HRs.out.at hlt
    have hrl : rr.length ≤ 9223372036854775807 := by omega
    have hgr : gr < w5.heap.size := Nat.lt_of_lt_of_le hgr0 hs5
    replace u0 := (HB25.out.cell (p := ⟨gr, offr + j, none⟩) hgr0).trans u0
    have HRj := hide hrj
    have HRr : Hid (Rv w2 w2.heap.size Ar' rr.length rr) := hrv.rv (fun _ h => h)
    have hgk : g < w5.heap.size := Nat.lt_of_lt_of_le hg hs5
    obtain ⟨y0, y1, y2, y3, y4, y5, y6, y7⟩ := HY.out
    replace y0 := (HB25.out.cell (p := ⟨g, off, none⟩) hg).trans y0
    replace y1 := (HB25.out.cell (p := ⟨g, off + 1, none⟩) hg).trans y1
    replace y2 := (HB25.out.cell (p := ⟨g, off + 2, none⟩) hg).trans y2
    replace y3 := (HB25.out.cell (p := ⟨g, off + 3, none⟩) hg).trans y3
    replace y4 := (HB25.out.cell (p := ⟨g, off + 4, none⟩) hg).trans y4
    replace y5 := (HB25.out.cell (p := ⟨g, off + 5, none⟩) hg).trans y5
    replace y6 := (HB25.out.cell (p := ⟨g, off + 6, none⟩) hg).trans y6
    replace y7 := (HB25.out.cell (p := ⟨g, off + 7, none⟩) hg).trans y7
    have x0 := HX.out.cell 0
    have x1 := HX.out.cell 1
    have x2 := HX.out.cell 2
    have x3 := HX.out.cell 3
    have x4 := HX.out.cell 4
    have x5 := HX.out.cell 5
    have x6 := HX.out.cell 6
    have x7 := HX.out.cell 7
    simp at x0 x1 x2 x3 x4 x5 x6 x7
    obtain ⟨⟨⟨k', n', s'⟩, er⟩, hp⟩ : ∃ p, p = (Ev.Ex.mk hd ks').val rr role := ⟨_, rfl⟩
    have HP := hide hp
    have hvo := vOk_val (ks := ks') HRr.out.2 HOk.out.1 (by unfold maxLen; omega : role.size ≤ maxLen)
    rw [← hp] at hvo
    have HVo := hide hvo
    clear hp hvo hrj hrv k1 k2
    go_upto_region 9 with fail
    have hTs := M.tab_stable (l := [(9, M.NoF), (13, M.AllocF w5.heap.size 25), (14, M.StoreF 13 25 #[.int .u8 (k'.toNat : Int), .int .i64 n', .string s'])]) (fun p hp => by
      simp only [List.mem_cons, List.not_mem_nil, or_false] at hp
      rcases hp with rfl | rfl | rfl
      · exact M.NoF.stable
      · exact M.AllocF.stable
      · exact M.StoreF.stable)
    have hSs := M.shp_some (l := [(9, IsV (.tuple #[.agg #[.int .u8 (k'.toNat : Int), .int .i64 n', .string s'], .int .i64 (er : Int)])), (13, fun v => ∃ g : Nat, v = .pointer (some ⟨g, 0, none⟩))]) (fun p hp => by
      simp only [List.mem_cons, List.not_mem_nil, or_false] at hp
      rcases hp with rfl | rfl
      · exact IsV.some _
      · exact ⟨.pointer (some ⟨0, 0, none⟩), 0, rfl⟩)
    have hRt := M.StR.turns (w0 := w5) (k := 14) (u0 := .int .u8 (k'.toNat : Int)) (u1 := .int .i64 n') (u2 := .string s') hTs (fun i Φ hi hΦ m v w g hv hg => by
      unfold M.tab at hΦ
      obtain ⟨p, hp, rfl⟩ := Option.map_eq_some_iff.1 hΦ
      have e : p.1 = i := by have := List.find?_some hp; simpa using this
      have hm := List.mem_of_find?_eq_some hp
      simp only [List.mem_cons, List.not_mem_nil, or_false] at hm
      rcases hm with rfl | rfl | rfl
      · exact trivial
      · exact M.AllocF.put (m := m) hv g _ _ _
      · exact absurd e.symm hi)
    have HTs := hide hTs
    have HSs := hide hSs
    have HRt := hide hRt
    clear hTs hSs hRt
    refine M.wp_region_toldL (mk := false) (M.tab [(9, M.NoF), (13, M.AllocF w5.heap.size 25), (14, M.StoreF 13 25 #[.int .u8 (k'.toNat : Int), .int .i64 n', .string s'])]) (M.Up w5) w5.heap.size 16 (M.shp [(9, IsV (.tuple #[.agg #[.int .u8 (k'.toNat : Int), .int .i64 n', .string s'], .int .i64 (er : Int)])), (13, fun v => ∃ g : Nat, v = .pointer (some ⟨g, 0, none⟩))]) HSs.out ?_ HTs.out (M.Up.lives _) (M.StR 14 w5.heap.size (.int .u8 (k'.toNat : Int)) (.int .i64 n') (.string s')) HRt.out (by kernel_rfl) (by kernel_rfl) (M.Up.start _) (Nat.le_refl _) ?_
    · exact M.tab_loc (fun p hp => by
        simp only [List.mem_cons, List.not_mem_nil, or_false] at hp
        rcases hp with rfl | rfl | rfl
        · exact M.NoF.loc
        · exact M.AllocF.loc
        · exact M.StoreF.loc (by kernel_rfl))
    simp only [List.take_succ_cons, List.take_zero, List.drop_succ_cons, List.drop_zero]
    refine M.wpTold_read ?_ rfl rfl (fun w' hS => ?_) ?_
    rotate_left
    · go_simp
      rfl
    go_frame
    refine M.wpTold_read ?_ rfl rfl (fun w' hS => ?_) ?_
    rotate_left
    · have l7 := (hS.cell (p := ⟨gX, 7, none⟩) hgx).trans x7
      go_simp
      rfl
    go_frame
    refine M.wpTold_read ?_ rfl rfl (fun w' hS => ?_) ?_
    rotate_left
    · go_simp
      rfl
    go_frame
    refine M.wpTold_read ?_ rfl rfl (fun w' hS => ?_) ?_
    rotate_left
    · have l0 := (hS.cell (p := ⟨g, off, none⟩) hgk).trans y0
      have l1 := (hS.cell (p := ⟨g, off + 1, none⟩) hgk).trans y1
      have l2 := (hS.cell (p := ⟨g, off + 2, none⟩) hgk).trans y2
      have l3 := (hS.cell (p := ⟨g, off + 3, none⟩) hgk).trans y3
      have l4 := (hS.cell (p := ⟨g, off + 4, none⟩) hgk).trans y4
      have l5 := (hS.cell (p := ⟨g, off + 5, none⟩) hgk).trans y5
      have l6 := (hS.cell (p := ⟨g, off + 6, none⟩) hgk).trans y6
      have l7 := (hS.cell (p := ⟨g, off + 7, none⟩) hgk).trans y7
      go_simp
      rfl
    go_frame
    refine M.wpTold_read ?_ rfl rfl (fun w' hS => ?_) ?_
    rotate_left
    · go_simp
      rfl
    go_frame
    refine M.wpTold_read ?_ rfl rfl (fun w' hS => ?_) ?_
    rotate_left
    · go_simp
      rfl
    go_frame
    refine M.wpTold_read ?_ rfl rfl (fun w' hS => ?_) ?_
    rotate_left
    · go_simp
      rfl
    go_frame
    refine M.wpTold_read ?_ rfl rfl (fun w' hS => ?_) ?_
    rotate_left
    · have l0 := (hS.cell (p := ⟨gr, offr + j, none⟩) hgr).trans u0
      go_simp
      rfl
    go_frame
    refine M.wpTold_read ?_ rfl rfl (fun w' hS => ?_) ?_
    rotate_left
    · go_simp
      rfl
    go_frame
    refine' M.wpTold_call _ _ _ rfl rfl (fun w' => ?_) (fun w' hS hh hs => ?_) (fun v9 h9 => ?_)
    rotate_left 2
    · go_simp
      constructor <;> rfl
    · have c0 : RVc d' := rvalue_all d'
      unfold RVc at c0
      have cc := c0 hd ks' A' ks'.length c' Ar' rr.length cr' rr role w' ((HEx.out.next HB25.out).next hS) HOk.out ((HRr.out.next HB25.out).next hS) hrl hro
      rw [← HP.out, ansV_mk] at cc
      unfold exV at cc
      refine cc.mono ?_
      rintro e w9 ⟨rfl, hb⟩
      exact ⟨_, rfl, ⟨rfl, trivial⟩, hb⟩
    obtain rfl := h9
    go_frame
    refine M.wpTold_read ?_ rfl rfl (fun w' hS => ?_) ?_
    rotate_left
    · go_simp
      rfl
    go_frame
    refine M.wpTold_read ?_ rfl rfl (fun w' hS => ?_) ?_
    rotate_left
    · go_simp
      rfl
    go_frame
    refine M.wpTold_read ?_ rfl rfl (fun w' hS => ?_) ?_
    rotate_left
    · go_simp
      rfl
    go_frame
    refine M.wpTold_tell _ rfl rfl (fun w' hS hh hs => ?_) (fun vA hA => ?_)
    · refine ⟨.pointer (some ⟨w'.heap.size, 0, none⟩), w'.alloc (.cells #[.int .u8 0, .int .i64 0, .string ⟨#[]⟩] 25), by go_simp <;> rfl, ⟨⟨_, rfl⟩, w'.heap.size, _, _, _, rfl, hh, heap_alloc_new _ _⟩, ?_⟩
      show M.StR _ _ _ _ _ _ _ _
      unfold M.StR
      rw [if_neg (by decide)]
      exact al _ _
    obtain ⟨gA, rfl⟩ := hA
    go_frame
    refine M.wpTold_store _ rfl rfl (fun w' hS hh hs => ?_) (fun vS hvS => ?_)
    · obtain ⟨g2, c0, c1, c2, e, hg2, hb2⟩ := hs.1 13 _ (by kernel_rfl) rfl
      injection e with e
      injection e with e
      injection e with e
      subst e
      have hB2 : Blk w' gA 25 #[c0, c1, c2] := hb2
      have q0 := hB2.cell 0
      have q1 := hB2.cell 1
      have q2 := hB2.cell 2
      simp at q0 q1 q2
      have p0 := hB2.frozen 0
      have p1 := hB2.frozen 1
      have p2 := hB2.frozen 2
      refine ⟨M.put3 w' gA (.int .u8 (k'.toNat : Int)) (.int .i64 n') (.string s'), by go_simp <;> rfl, ⟨trivial, fun g3 hg3 => ?_⟩, ?_⟩
      · have e : gA = g3 := by
          injection hg3 with hg3
          injection hg3 with hg3
          injection hg3 with hg3
          injection hg3
        subst e
        exact blk3 hB2 _ _ _
      · unfold M.StR
        rw [if_pos rfl]
        exact ⟨gA, hg2, rfl⟩
    go_frame
    refine M.wpTold_read ?_ rfl rfl (fun w' hS => ?_) ?_
    rotate_left
    · go_simp
      rfl
    go_frame
    refine M.wpTold_nil fun wS hH => ?_
    have hblk : Blk wS gA 25 #[.int .u8 (k'.toNat : Int), .int .i64 n', .string s'] := (hH.told 14 _ rfl).1 gA rfl
    have hlow : w5.heap.size ≤ gA := by
      obtain ⟨g2, c0, c1, c2, e, hg2, _⟩ := (hH.told 13 _ rfl).1
      injection e with e
      injection e with e
      injection e with e
      rw [e]
      exact hg2
    have HK8 := hide hblk
    have hb8 : Below w5.heap.size w5 wS := hH.s
    obtain ⟨w8, hw8⟩ : ∃ x, x = wS := ⟨_, rfl⟩
    subst hw8
    clear hH hlow hblk y0 y1 y2 y3 y4 y5 y6 y7 x0 x1 x2 x3 x4 x5 x6 x7 u0
    go_upto_region 10 with fail
    have HB8 := hide (HB.out.trans (hb8.mono HB.out.size))
    have HB28 := hide (HB25.out.trans (hb8.mono hs5))
    have HO8 := hide (own_below HO.out hb8)
    have HZ8 := hide (HZ.out.below hb8 HZ.out.lt)
    have hs8 := HB28.out.size
    clear hb8
    by_cases he : er = 0
    · subst he
      have HT2 : Hid (Ev.colL x role (rs.take (j + 1)) = (l ++ Ev.some1 ⟨k', n', s'⟩, 0)) := Ev.col_snoc HT.out HRj.out (by rw [HXe.out]; exact HP.out.symm)
      have v0 := HK8.out.cell 0
      have v1 := HK8.out.cell 1
      have v2 := HK8.out.cell 2
      simp at v0 v1 v2
      by_cases hk : k' = 0
      · have tk : ((k'.toNat : Int) != 0) = false := by rw [hk]; rfl
        have HS1 : Hid (Ev.some1 ⟨k', n', s'⟩ = []) := by show _ = _; unfold Ev.some1; rw [if_pos hk]
        clear hk
        go_wp2_with fail
        refine ⟨nr - (j + 1), by omega, j + 1, l, v, by omega, rfl, ?_, by rw [HT2.out, HS1.out, List.append_nil], HLo.out, by omega, HO8.out, HB28.out⟩
        exact ⟨rfl, rfl, rfl, rfl, rfl, rfl, rfl, by go_num, trivial⟩
      · have tk : ((k'.toNat : Int) != 0) = true := by
          have : k'.toNat ≠ 0 := fun e => hk (UInt8.toNat_inj.1 (by rw [e]; rfl))
          simp; omega
        have HS1 : Hid (Ev.some1 ⟨k', n', s'⟩ = [⟨k', n', s'⟩]) := by show _ = _; unfold Ev.some1; rw [if_neg hk]
        clear hk
        obtain ⟨w9, hw9⟩ : ∃ w9, w9 = w8.alloc (.cells #[.int .u8 (k'.toNat : Int), .int .i64 n', .string s'] 25) := ⟨_, rfl⟩
        have HG9 : Hid (Blk w9 w8.heap.size 25 #[.int .u8 (k'.toNat : Int), .int .i64 n', .string s']) := by rw [hw9]; exact Blk.new _ _ _
        have hb9 : Below w8.heap.size w8 w9 := by rw [hw9]; exact al _ _
        have HB29 := hide (HB28.out.trans (hb9.mono hs8))
        have HO9 := hide (own_below HO8.out hb9)
        have hs9 := HB29.out.size
        clear hb9
        go_wp2_with (at_builtin; rw [← hw9]; refine wpList_appV rfl (.tmp 75) (.tmp 77) Tryz.underlying29 rfl w2.heap.size _ l rfl HO9.out w8.heap.size 1 ⟨k', n', s'⟩ rfl rfl HG9.out (by omega) hs9 ?_; intro v10 w10 ho10 hb10; have HO10 := hide ho10; have HB10 := hide (HB29.out.trans hb10); clear ho10 hb10)
        refine ⟨nr - (j + 1), by omega, j + 1, l ++ [⟨k', n', s'⟩], v10, by omega, rfl, ?_, by rw [HT2.out, HS1.out], fun u hu => ?_, by simp; omega, HO10.out, HB10.out⟩
        · exact ⟨rfl, rfl, rfl, rfl, rfl, rfl, rfl, by go_num, trivial⟩
        · rcases List.mem_append.1 hu with h | h
          · exact HLo.out u h
          · rw [List.mem_singleton] at h
            rw [h]
            exact HVo.out
    · have te : ((er : Int) != 0) = true := by simp; omega
      have HSp : Hid (∃ l, Ev.colL x role rs = (l, er)) := ⟨[], Ev.col_stop HT.out HRj.out (by rw [HXe.out]; exact HP.out.symm) he⟩
      have HNe := hide he
      clear he
      have z0 := HZ8.out.cell 0
      have z1 := HZ8.out.cell 1
      have z2 := HZ8.out.cell 2
      simp at z0 z1 z2
      have f0 := HZ8.out.frozen 0
      have f1 := HZ8.out.frozen 1
      have f2 := HZ8.out.frozen 2
      have HF : Hid (Fin w gR (Val.vz, er) (((w8.setCell ⟨gR, 0, none⟩ (.int .u8 0)).setCell ⟨gR, 1, none⟩ (.int .i64 0)).setCell ⟨gR, 2, none⟩ (.string ⟨#[]⟩))) := ⟨blk3 HZ8.out _ _ _, below3 HB8.out hR _ _ _⟩
      go_wp2_with fail
      refine H.out _ _ (Val.vz, er) ?_ HF.out HNe.out rfl HSp.out
      exact ⟨rfl, rfl, rfl, rfl, trivial⟩
  · obtain rfl : j = nr := by omega
    have htk : rs.take j = rs := List.take_of_length_le (by rw [← HRl.out]; exact Nat.le_refl _)
    have HSp : Hid (Ev.colL x role rs = (l, 0)) := by
      have := HT.out
      rw [htk] at this
      exact this
    obtain ⟨A1, c1, rfl⟩ := own_sl HO.out
    have HRv : Hid (Rv w5 w5.heap.size A1 l.length l) := Rv.own HO.out HLo.out
    go_wp2_with fail
    refine H1.out _ _ A1 l.length c1 l ?_ HX.out HZ.out HB.out HSp.out rfl (by omega) HRv.out
    exact ⟨rfl, rfl, rfl, rfl, rfl, rfl, rfl, trivial⟩
end
end Go.Proofs.YticljmgcgjibpaaGreatDoor

/-
  The walk of chanceryref24.Fold, the rest: the values are folded. Conditions: what is read reads as a tree, and as rows.
-/
namespace Go.Proofs.YticljmgcgjibpaaGreatDoor
open Go.RowKit

section
variable {o k : UInt8} {n N : Int} {s nm of role : ByteArray} {A Ar Al : Option Addr} {m c nr cr cl gX gR : Nat} {r l : List Cell.Val} {rs : List (List Cell.Val)} {ks : List Ev.Ex} {w w2 : World} {d : Nat}
set_option linter.unusedVariables false in
set_option maxRecDepth 1000000 in
set_option maxHeartbeats 4000000 in
theorem rfd_5 {Q : Exit → Act → World → Prop} {a : Act} {q : Nat} (hF : Fr 148 a [(1, .slice Ar nr cr), (2, .string role), (3, .pointer (some ⟨gX, 0, none⟩)), (6, .pointer (some ⟨gR, 0, none⟩)), (8, .slice Al q cl)]) (hX : Blk w2 gX 28 #[.int .u8 (o.toNat : Int), .int .u8 (k.toNat : Int), .int .i64 n, .string s, .string nm, .string of, .int .i64 N, .slice A m c]) (hZ : Blk w2 gR 25 #[.int .u8 0, .int .i64 0, .string ⟨#[]⟩]) (hR : w.heap.size ≤ gR) (hB : Below w.heap.size w w2)
    (h0 : o.toNat = 17 → ∀ a' w' p, Fr 148 a' [(6, .pointer (some ⟨gR, 0, none⟩)), (7, .int .i64 (p.2 : Int))] → Fin w gR p w' → p = (⟨2, (q : Int), ⟨#[]⟩⟩, 0) → Q .ret a' w') (h1 : o.toNat ≠ 17 → ∀ a', Fr 148 a' [(1, .slice Ar nr cr), (2, .string role), (3, .pointer (some ⟨gX, 0, none⟩)), (6, .pointer (some ⟨gR, 0, none⟩)), (8, .slice Al q cl)] → Q .normal a' w2) : (cL (rfd 5)).wp Tryz.prog Q a w2 := by
  conv => arg 2; whnf
  obtain ⟨f, rfl, ⟨s1, s2, s3, s6, s8, _⟩, hfr⟩ := hF.open148
  rw [hfr] at s1 s2 s3 s6 s8
  rw [s1, s2, s3, s6, s8]
  clear hF hfr s1 s2 s3 s6 s8
  have H := hide h0
  have H1 := hide h1
  clear h0 h1
  have HB := hide hB
  have HZ := hide hZ
  clear hB hZ
  have HX := hide hX
  have x0 := hX.cell 0
  have x1 := hX.cell 1
  have x2 := hX.cell 2
  have x3 := hX.cell 3
  have x4 := hX.cell 4
  have x5 := hX.cell 5
  have x6 := hX.cell 6
  have x7 := hX.cell 7
  simp at x0 x1 x2 x3 x4 x5 x6 x7
  clear hX
  by_cases hm : o.toNat = 17
  · replace H := hide (H.out hm)
    have t4 : ((o.toNat : Int) == 17) = true := by simp; omega
    clear hm H1
    have z0 := HZ.out.cell 0
    have z1 := HZ.out.cell 1
    have z2 := HZ.out.cell 2
    simp at z0 z1 z2
    have f0 := HZ.out.frozen 0
    have f1 := HZ.out.frozen 1
    have f2 := HZ.out.frozen 2
    have HF : Hid (Fin w gR (⟨2, (q : Int), ⟨#[]⟩⟩, 0) (((w2.setCell ⟨gR, 0, none⟩ (.int .u8 2)).setCell ⟨gR, 1, none⟩ (.int .i64 (q : Int))).setCell ⟨gR, 2, none⟩ (.string ⟨#[]⟩))) := ⟨blk3 HZ.out _ _ _, below3 HB.out hR _ _ _⟩
    go_wp2_with fail
    refine H.out _ _ (⟨2, (q : Int), ⟨#[]⟩⟩, 0) ?_ HF.out rfl
    exact ⟨rfl, rfl, rfl, rfl, trivial⟩
  · replace H1 := hide (H1.out hm)
    have t4 : ((o.toNat : Int) == 17) = false := by simp; omega
    clear hm H
    go_wp2_with fail
    refine H1.out _ ?_
    exact ⟨rfl, rfl, rfl, rfl, rfl, rfl, rfl, trivial⟩
set_option linter.unusedVariables false in
set_option maxRecDepth 1000000 in
set_option maxHeartbeats 4000000 in
theorem rfd_6 {Q : Exit → Act → World → Prop} {a : Act} {q : Nat} (hF : Fr 148 a [(1, .slice Ar nr cr), (2, .string role), (3, .pointer (some ⟨gX, 0, none⟩)), (6, .pointer (some ⟨gR, 0, none⟩)), (8, .slice Al q cl)]) (hZ : Blk w2 gR 25 #[.int .u8 0, .int .i64 0, .string ⟨#[]⟩]) (hR : w.heap.size ≤ gR) (hB : Below w.heap.size w w2)
    (h0 : q = 0 → ∀ a' w' p, Fr 148 a' [(6, .pointer (some ⟨gR, 0, none⟩)), (7, .int .i64 (p.2 : Int))] → Fin w gR p w' → p = (Val.vz, 0) → Q .ret a' w') (h1 : q ≠ 0 → ∀ a', Fr 148 a' [(1, .slice Ar nr cr), (2, .string role), (3, .pointer (some ⟨gX, 0, none⟩)), (6, .pointer (some ⟨gR, 0, none⟩)), (8, .slice Al q cl)] → Q .normal a' w2) : (cL (rfd 6)).wp Tryz.prog Q a w2 := by
  conv => arg 2; whnf
  obtain ⟨f, rfl, ⟨s1, s2, s3, s6, s8, _⟩, hfr⟩ := hF.open148
  rw [hfr] at s1 s2 s3 s6 s8
  rw [s1, s2, s3, s6, s8]
  clear hF hfr s1 s2 s3 s6 s8
  have H := hide h0
  have H1 := hide h1
  clear h0 h1
  have HB := hide hB
  have HZ := hide hZ
  clear hB hZ
  by_cases hm : q = 0
  · replace H := hide (H.out hm)
    have t4 : ((q : Int) == 0) = true := by simp; omega
    clear hm H1
    have z0 := HZ.out.cell 0
    have z1 := HZ.out.cell 1
    have z2 := HZ.out.cell 2
    simp at z0 z1 z2
    have f0 := HZ.out.frozen 0
    have f1 := HZ.out.frozen 1
    have f2 := HZ.out.frozen 2
    have HF : Hid (Fin w gR (Val.vz, 0) (((w2.setCell ⟨gR, 0, none⟩ (.int .u8 0)).setCell ⟨gR, 1, none⟩ (.int .i64 0)).setCell ⟨gR, 2, none⟩ (.string ⟨#[]⟩))) := ⟨blk3 HZ.out _ _ _, below3 HB.out hR _ _ _⟩
    go_wp2_with fail
    refine H.out _ _ (Val.vz, 0) ?_ HF.out rfl
    exact ⟨rfl, rfl, rfl, rfl, trivial⟩
  · replace H1 := hide (H1.out hm)
    have t4 : ((q : Int) == 0) = false := by simp; omega
    clear hm H
    go_wp2_with fail
    refine H1.out _ ?_
    exact ⟨rfl, rfl, rfl, rfl, rfl, rfl, rfl, trivial⟩
set_option linter.unusedVariables false in
set_option maxRecDepth 1000000 in
set_option maxHeartbeats 4000000 in
theorem rfd_7 {Q : Exit → Act → World → Prop} {a : Act} {q : Nat} (hF : Fr 148 a [(1, .slice Ar nr cr), (2, .string role), (3, .pointer (some ⟨gX, 0, none⟩)), (6, .pointer (some ⟨gR, 0, none⟩)), (8, .slice Al q cl)]) (hl : Rv w2 w2.heap.size Al q l) (hq : q ≠ 0)
    (h : ∀ a' w' gO (k0 : UInt8) (n0 : Int) (s0 : ByteArray), l[0]? = some ⟨k0, n0, s0⟩ → Fr 148 a' [(1, .slice Ar nr cr), (2, .string role), (3, .pointer (some ⟨gX, 0, none⟩)), (6, .pointer (some ⟨gR, 0, none⟩)), (8, .slice Al q cl), (12, .pointer (some ⟨gO, 0, none⟩))] → Below w2.heap.size w2 w' → w2.heap.size ≤ gO → Blk w' gO 25 #[.int .u8 (k0.toNat : Int), .int .i64 n0, .string s0] → Q .normal a' w') : (cL (rfd 7)).wp Tryz.prog Q a w2 := by
  conv => arg 2; whnf
  obtain ⟨f, rfl, ⟨s1, s2, s3, s6, s8, _⟩, hfr⟩ := hF.open148
  rw [hfr] at s1 s2 s3 s6 s8
  rw [s1, s2, s3, s6, s8]
  clear hF hfr s1 s2 s3 s6 s8
  have H := hide h
  clear h
  obtain ⟨b, off, k0, n0, s0, rfl, hbl, hl0, c0, c1, c2, hok⟩ := hl.at (k := 0) (by omega)
  rw [Nat.zero_mul, Nat.add_zero] at c0 c1 c2
  have HL0 := hide hl0
  have hq0 : 0 < q := by omega
  obtain ⟨w3, hw3⟩ : ∃ x, x = w2.alloc (.cells #[.int .u8 (k0.toNat : Int), .int .i64 n0, .string s0] 25) := ⟨_, rfl⟩
  have HV : Hid (Blk w3 w2.heap.size 25 #[.int .u8 (k0.toNat : Int), .int .i64 n0, .string s0]) := by rw [hw3]; exact Blk.new _ _ _
  have hb : Below w2.heap.size w2 w3 := by rw [hw3]; exact al _ _
  have HB := hide hb
  clear hb hl0 hok hl
  go_wp2_with fail
  rw [← hw3]
  refine H.out _ _ _ k0 n0 s0 HL0.out ?_ HB.out (Nat.le_refl _) HV.out
  exact ⟨rfl, rfl, rfl, rfl, rfl, rfl, rfl, rfl, trivial⟩
/-- What stands in the second loop. -/
def RfI2 (Ar : Option Addr) (nr cr : Nat) (role : ByteArray) (gX gR : Nat) (Al : Option Addr) (q cl gO : Nat) (f : Cell.Val → Cell.Val → Cell.Val × Nat) (x0 : Cell.Val) (l' : List Cell.Val) (w2 : World) (gg : Nat) (a : Act) (wr : World) : Prop :=
  ∃ (j : Nat) (t : Cell.Val), 1 ≤ j ∧ j ≤ q ∧ gg = q - j ∧ Fr 148 a [(1, .slice Ar nr cr), (2, .string role), (3, .pointer (some ⟨gX, 0, none⟩)), (6, .pointer (some ⟨gR, 0, none⟩)), (8, .slice Al q cl), (12, .pointer (some ⟨gO, 0, none⟩)), (13, .int .i64 (j : Int))] ∧ Ev.gatL f x0 (l'.take (j - 1)) = (t, 0) ∧ vOk t ∧ Blk wr gO 25 #[.int .u8 (t.k.toNat : Int), .int .i64 t.n, .string t.s] ∧ Below w2.heap.size w2 wr
set_option linter.unusedVariables false in
set_option maxRecDepth 1000000 in
set_option maxHeartbeats 4000000 in
theorem rfd_8s {Q : Exit → Act → World → Prop} {a : Act} {q gO : Nat} {xv : Cell.Val} {l' : List Cell.Val} {w3 : World} (hF : Fr 148 a [(1, .slice Ar nr cr), (2, .string role), (3, .pointer (some ⟨gX, 0, none⟩)), (6, .pointer (some ⟨gR, 0, none⟩)), (8, .slice Al q cl), (12, .pointer (some ⟨gO, 0, none⟩))]) (hX : Blk w2 gX 28 #[.int .u8 (o.toNat : Int), .int .u8 (k.toNat : Int), .int .i64 n, .string s, .string nm, .string of, .int .i64 N, .slice A m c]) (hZ : Blk w2 gR 25 #[.int .u8 0, .int .i64 0, .string ⟨#[]⟩]) (hR : w.heap.size ≤ gR) (hB : Below w.heap.size w w2) (hl : Rv w2 w2.heap.size Al q (xv :: l')) (hq : q ≤ nr) (hnr : nr * 32 ≤ 140737488355328) (ho : o.toNat = 18) (hb3 : Below w2.heap.size w2 w3) (hgO : w2.heap.size ≤ gO) (hO : Blk w3 gO 25 #[.int .u8 (xv.k.toNat : Int), .int .i64 xv.n, .string xv.s])
    (h0 : ∀ a' w' p, Fr 148 a' [(6, .pointer (some ⟨gR, 0, none⟩)), (7, .int .i64 (p.2 : Int))] → Fin w gR p w' → p = Ev.gat (Val.add) (xv :: l') → Q .ret a' w') (h1 : ∀ a' w' t, Fr 148 a' [(1, .slice Ar nr cr), (2, .string role), (3, .pointer (some ⟨gX, 0, none⟩)), (6, .pointer (some ⟨gR, 0, none⟩)), (8, .slice Al q cl), (12, .pointer (some ⟨gO, 0, none⟩))] → Below w2.heap.size w2 w' → Blk w' gO 25 #[.int .u8 (t.k.toNat : Int), .int .i64 t.n, .string t.s] → Ev.gat (Val.add) (xv :: l') = (t, 0) → Q .normal a' w') : (cL (rfd 8)).wp Tryz.prog Q a w3 := by
  conv => arg 2; whnf
  obtain ⟨f, rfl, ⟨s1, s2, s3, s6, s8, s12, _⟩, hfr⟩ := hF.open148
  rw [hfr] at s1 s2 s3 s6 s8 s12
  rw [s1, s2, s3, s6, s8, s12]
  clear hF hfr s1 s2 s3 s6 s8 s12
  have H := hide h0
  have H1 := hide h1
  have HX := hide hX
  have HZ := hide hZ
  have HB := hide hB
  have HL := hide hl
  have hgx := hX.lt
  have hlen := hl.len
  have hxok := hl.2 xv List.mem_cons_self
  have hz2 := hZ.lt
  have hqp : 1 ≤ q := by rw [← hlen]; simp
  have t17 : ((o.toNat : Int) == 18) = true := by simp; omega
  have t19 : ((o.toNat : Int) == 19) = false := by simp; omega
  have t20 : ((o.toNat : Int) == 20) = false := by simp; omega
  have hlo : w.heap.size ≤ gO := Nat.le_trans hB.size hgO
  clear h0 h1 hX hZ hB hl ho
  go_wp2_with fail
  refine wp_loop_ghost (RfI2 Ar nr cr role gX gR Al q cl gO (Val.add) xv l' w2) (q - 1) ?_ ?_
  · refine ⟨1, xv, by omega, hqp, rfl, ?_, rfl, hxok, hO, hb3⟩
    exact ⟨rfl, rfl, rfl, rfl, rfl, rfl, rfl, rfl, rfl, trivial⟩
  clear hO hb3 hxok
  rintro gg a w5 ⟨j, ⟨k2, n2, s2⟩, hj1, hj, rfl, hF, hT, hvo, hO, hbel⟩
  have HT := hide hT
  have HVt := hide hvo
  have HO := hide hO
  have HB25 := hide hbel
  have hs5 := hbel.size
  have HB5 := hide (HB.out.trans (hbel.mono HB.out.size))
  have HZ5 := hide (HZ.out.below hbel hz2)
  have HX5 := hide (HX.out.below hbel hgx)
  clear hT hvo hO hbel
  obtain ⟨f, rfl, ⟨s1, s2, s3, s6, s8, s12, s13, _⟩, hfr⟩ := hF.open148
  rw [hfr] at s1 s2 s3 s6 s8 s12 s13
  rw [s1, s2, s3, s6, s8, s12, s13]
  clear hF hfr s1 s2 s3 s6 s8 s12 s13
  by_cases hlt : j < q
  · obtain ⟨b, off, kd, nn, ss, rfl, hbl, hlj, c0, c1, c2, hok⟩ := HL.out.at hlt
    have hbg : b < w5.heap.size := Nat.lt_of_lt_of_le hbl hs5
    replace c0 := (HB25.out.cell (p := ⟨b, off + j * 3, none⟩) hbl).trans c0
    replace c1 := (HB25.out.cell (p := ⟨b, off + j * 3 + 1, none⟩) hbl).trans c1
    replace c2 := (HB25.out.cell (p := ⟨b, off + j * 3 + 2, none⟩) hbl).trans c2
    have HLj : Hid (l'[j - 1]? = some ⟨kd, nn, ss⟩) := by
      show _ = _
      obtain ⟨j', rfl⟩ : ∃ j', j = j' + 1 := ⟨j - 1, by omega⟩
      simpa using hlj
    have HOk := hide hok
    have hgx5 : gX < w5.heap.size := Nat.lt_of_lt_of_le hgx hs5
    clear hlj hok
    have x0 := HX5.out.cell 0
    have x1 := HX5.out.cell 1
    have x2 := HX5.out.cell 2
    have x3 := HX5.out.cell 3
    have x4 := HX5.out.cell 4
    have x5 := HX5.out.cell 5
    have x6 := HX5.out.cell 6
    have x7 := HX5.out.cell 7
    simp at x0 x1 x2 x3 x4 x5 x6 x7
    have htk : l'.take (j + 1 - 1) = l'.take (j - 1) ++ [⟨kd, nn, ss⟩] := by
      obtain ⟨j', rfl⟩ : ∃ j', j = j' + 1 := ⟨j - 1, by omega⟩
      have := HLj.out
      simp only [Nat.add_sub_cancel] at this ⊢
      rw [List.take_add_one, this]
      rfl
    have HTk := hide htk
    clear htk
    obtain ⟨⟨⟨k', n', s'⟩, er⟩, hp⟩ : ∃ p, p = Val.add ⟨k2, n2, s2⟩ ⟨kd, nn, ss⟩ := ⟨_, rfl⟩
    have HP := hide hp
    have hvo := add_ok ⟨k2, n2, s2⟩ ⟨kd, nn, ss⟩
    rw [← hp] at hvo
    have HVo := hide hvo
    clear hp hvo
    go_upto_region 23 with fail
    have hTs := M.tab_stable (l := [(5, M.NoF), (9, M.AllocF w5.heap.size 25), (10, M.StoreF 9 25 #[.int .u8 (k'.toNat : Int), .int .i64 n', .string s'])]) (fun p hp => by
      simp only [List.mem_cons, List.not_mem_nil, or_false] at hp
      rcases hp with rfl | rfl | rfl
      · exact M.NoF.stable
      · exact M.AllocF.stable
      · exact M.StoreF.stable)
    have hSs := M.shp_some (l := [(5, IsV (.tuple #[.agg #[.int .u8 (k'.toNat : Int), .int .i64 n', .string s'], .int .i64 (er : Int)])), (9, fun v => ∃ g : Nat, v = .pointer (some ⟨g, 0, none⟩))]) (fun p hp => by
      simp only [List.mem_cons, List.not_mem_nil, or_false] at hp
      rcases hp with rfl | rfl
      · exact IsV.some _
      · exact ⟨.pointer (some ⟨0, 0, none⟩), 0, rfl⟩)
    have hRt := M.StR.turns (w0 := w5) (k := 10) (u0 := .int .u8 (k'.toNat : Int)) (u1 := .int .i64 n') (u2 := .string s') hTs (fun i Φ hi hΦ m v w g hv hg => by
      unfold M.tab at hΦ
      obtain ⟨p, hp, rfl⟩ := Option.map_eq_some_iff.1 hΦ
      have e : p.1 = i := by have := List.find?_some hp; simpa using this
      have hm := List.mem_of_find?_eq_some hp
      simp only [List.mem_cons, List.not_mem_nil, or_false] at hm
      rcases hm with rfl | rfl | rfl
      · exact trivial
      · exact M.AllocF.put (m := m) hv g _ _ _
      · exact absurd e.symm hi)
    have HTs := hide hTs
    have HSs := hide hSs
    have HRt := hide hRt
    clear hTs hSs hRt
    refine M.wp_region_toldL (mk := false) (M.tab [(5, M.NoF), (9, M.AllocF w5.heap.size 25), (10, M.StoreF 9 25 #[.int .u8 (k'.toNat : Int), .int .i64 n', .string s'])]) (M.Up w5) w5.heap.size 12 (M.shp [(5, IsV (.tuple #[.agg #[.int .u8 (k'.toNat : Int), .int .i64 n', .string s'], .int .i64 (er : Int)])), (9, fun v => ∃ g : Nat, v = .pointer (some ⟨g, 0, none⟩))]) HSs.out ?_ HTs.out (M.Up.lives _) (M.StR 10 w5.heap.size (.int .u8 (k'.toNat : Int)) (.int .i64 n') (.string s')) HRt.out (by kernel_rfl) (by kernel_rfl) (M.Up.start _) (Nat.le_refl _) ?_
    · exact M.tab_loc (fun p hp => by
        simp only [List.mem_cons, List.not_mem_nil, or_false] at hp
        rcases hp with rfl | rfl | rfl
        · exact M.NoF.loc
        · exact M.AllocF.loc
        · exact M.StoreF.loc (by kernel_rfl))
    simp only [List.take_succ_cons, List.take_zero, List.drop_succ_cons, List.drop_zero]
    refine M.wpTold_read ?_ rfl rfl (fun w' hS => ?_) ?_
    rotate_left
    · have l0 := (Blk.below (HO.out) hS HO.out.lt).cell 0
      have l1 := (Blk.below (HO.out) hS HO.out.lt).cell 1
      have l2 := (Blk.below (HO.out) hS HO.out.lt).cell 2
      simp at l0 l1 l2
      go_simp
      rfl
    go_frame
    refine M.wpTold_read ?_ rfl rfl (fun w' hS => ?_) ?_
    rotate_left
    · go_simp
      rfl
    go_frame
    refine M.wpTold_read ?_ rfl rfl (fun w' hS => ?_) ?_
    rotate_left
    · go_simp
      rfl
    go_frame
    refine M.wpTold_read ?_ rfl rfl (fun w' hS => ?_) ?_
    rotate_left
    · go_simp
      rfl
    go_frame
    refine M.wpTold_read ?_ rfl rfl (fun w' hS => ?_) ?_
    rotate_left
    · have l0 := (hS.cell (p := ⟨b, off + j * 3, none⟩) hbg).trans c0
      have l1 := (hS.cell (p := ⟨b, off + j * 3 + 1, none⟩) hbg).trans c1
      have l2 := (hS.cell (p := ⟨b, off + j * 3 + 2, none⟩) hbg).trans c2
      go_simp
      rfl
    go_frame
    refine' M.wpTold_call _ _ _ rfl rfl (fun w' => ?_) (fun w' hS hh hs => ?_) (fun v5 h5 => ?_)
    rotate_left 2
    · go_simp
      constructor <;> rfl
    · have cc := rAdd_any k2 n2 s2 kd nn ss w' HVt.out.2.1 HVt.out.2.2 HOk.out.2.1 HOk.out.2.2
      rw [← HP.out, ansV_mk] at cc
      refine cc.mono ?_
      rintro e w9 ⟨rfl, hb⟩
      exact ⟨_, rfl, ⟨rfl, trivial⟩, hb⟩
    obtain rfl := h5
    go_frame
    refine M.wpTold_read ?_ rfl rfl (fun w' hS => ?_) ?_
    rotate_left
    · go_simp
      rfl
    go_frame
    refine M.wpTold_read ?_ rfl rfl (fun w' hS => ?_) ?_
    rotate_left
    · go_simp
      rfl
    go_frame
    refine M.wpTold_read ?_ rfl rfl (fun w' hS => ?_) ?_
    rotate_left
    · go_simp
      rfl
    go_frame
    refine M.wpTold_tell _ rfl rfl (fun w' hS hh hs => ?_) (fun vA hA => ?_)
    · refine ⟨.pointer (some ⟨w'.heap.size, 0, none⟩), w'.alloc (.cells #[.int .u8 0, .int .i64 0, .string ⟨#[]⟩] 25), by go_simp <;> rfl, ⟨⟨_, rfl⟩, w'.heap.size, _, _, _, rfl, hh, heap_alloc_new _ _⟩, ?_⟩
      show M.StR _ _ _ _ _ _ _ _
      unfold M.StR
      rw [if_neg (by decide)]
      exact al _ _
    obtain ⟨gA, rfl⟩ := hA
    go_frame
    refine M.wpTold_store _ rfl rfl (fun w' hS hh hs => ?_) (fun vS hvS => ?_)
    · obtain ⟨g2, c0, c1, c2, e, hg2, hb2⟩ := hs.1 9 _ (by kernel_rfl) rfl
      injection e with e
      injection e with e
      injection e with e
      subst e
      have hB2 : Blk w' gA 25 #[c0, c1, c2] := hb2
      have q0 := hB2.cell 0
      have q1 := hB2.cell 1
      have q2 := hB2.cell 2
      simp at q0 q1 q2
      have p0 := hB2.frozen 0
      have p1 := hB2.frozen 1
      have p2 := hB2.frozen 2
      refine ⟨M.put3 w' gA (.int .u8 (k'.toNat : Int)) (.int .i64 n') (.string s'), by go_simp <;> rfl, ⟨trivial, fun g3 hg3 => ?_⟩, ?_⟩
      · have e : gA = g3 := by
          injection hg3 with hg3
          injection hg3 with hg3
          injection hg3 with hg3
          injection hg3
        subst e
        exact blk3 hB2 _ _ _
      · unfold M.StR
        rw [if_pos rfl]
        exact ⟨gA, hg2, rfl⟩
    go_frame
    refine M.wpTold_read ?_ rfl rfl (fun w' hS => ?_) ?_
    rotate_left
    · go_simp
      rfl
    go_frame
    refine M.wpTold_nil fun wS hH => ?_
    have hblk : Blk wS gA 25 #[.int .u8 (k'.toNat : Int), .int .i64 n', .string s'] := (hH.told 10 _ rfl).1 gA rfl
    have hlow : w5.heap.size ≤ gA := by
      obtain ⟨g2, c0, c1, c2, e, hg2, _⟩ := (hH.told 9 _ rfl).1
      injection e with e
      injection e with e
      injection e with e
      rw [e]
      exact hg2
    have HK8 := hide hblk
    have hup : Below w5.heap.size w5 wS := hH.s
    have HB2S := hide (HB25.out.trans (hup.mono hs5))
    have HBS := hide (HB5.out.trans (hup.mono HB5.out.size))
    have HZS := hide (HZ5.out.below hup HZ5.out.lt)
    have HOS := hide (HO.out.below hup HO.out.lt)
    have HUp := hide hup
    clear hH hlow hblk hup c0 c1 c2 x0 x1 x2 x3 x4 x5 x6 x7
    go_upto_region 24 with fail
    by_cases he : er = 0
    · subst he
      have HT2 : Hid (Ev.gatL Val.add xv (l'.take (j + 1 - 1)) = (⟨k', n', s'⟩, 0)) := by
        show _ = _
        rw [HTk.out]
        exact Ev.gatL_snoc HT.out HP.out.symm
      have v0 := HK8.out.cell 0
      have v1 := HK8.out.cell 1
      have v2 := HK8.out.cell 2
      simp at v0 v1 v2
      have z0 := HOS.out.cell 0
      have z1 := HOS.out.cell 1
      have z2 := HOS.out.cell 2
      simp at z0 z1 z2
      have f0 := HOS.out.frozen 0
      have f1 := HOS.out.frozen 1
      have f2 := HOS.out.frozen 2
      go_wp2_with fail
      refine ⟨q - (j + 1), by omega, j + 1, ⟨k', n', s'⟩, by omega, by omega, rfl, ?_, HT2.out, HVo.out, blk3 HOS.out _ _ _, ((HB2S.out.setCell hgO _).setCell hgO _).setCell hgO _⟩
      exact ⟨rfl, rfl, rfl, rfl, rfl, rfl, rfl, rfl, by go_num, trivial⟩
    · have te : ((er : Int) != 0) = true := by simp; omega
      have HSp : Hid ((Val.vz, er) = Ev.gat Val.add (xv :: l')) := by
        show _ = Ev.gatL _ _ _
        have hjl : j - 1 < l'.length := by simp at hlen; omega
        have h1 := Ev.gatL_stop (b := l'.drop (j - 1 + 1)) HT.out HP.out.symm he
        have e1 : l'[j - 1] = ⟨kd, nn, ss⟩ := (List.getElem?_eq_some_iff.1 HLj.out).2
        rw [← e1, ← List.drop_eq_getElem_cons hjl, List.take_append_drop] at h1
        exact h1.symm
      clear he
      have z0 := HZS.out.cell 0
      have z1 := HZS.out.cell 1
      have z2 := HZS.out.cell 2
      simp at z0 z1 z2
      have f0 := HZS.out.frozen 0
      have f1 := HZS.out.frozen 1
      have f2 := HZS.out.frozen 2
      have HF : Hid (Fin w gR (Val.vz, er) (((wS.setCell ⟨gR, 0, none⟩ (.int .u8 0)).setCell ⟨gR, 1, none⟩ (.int .i64 0)).setCell ⟨gR, 2, none⟩ (.string ⟨#[]⟩))) := ⟨blk3 HZS.out _ _ _, below3 HBS.out hR _ _ _⟩
      go_wp2_with fail
      refine H.out _ _ (Val.vz, er) ?_ HF.out HSp.out
      exact ⟨rfl, rfl, rfl, rfl, trivial⟩
  · obtain rfl : j = q := by omega
    have HG : Hid (Ev.gat (Val.add) (xv :: l') = (⟨k2, n2, s2⟩, 0)) := by
      show Ev.gatL _ _ _ = _
      have := HT.out
      rw [List.take_of_length_le (by simp at hlen; omega)] at this
      exact this
    go_wp2_with fail
    refine H1.out _ _ ⟨k2, n2, s2⟩ ?_ HB25.out HO.out HG.out
    exact ⟨rfl, rfl, rfl, rfl, rfl, rfl, rfl, rfl, trivial⟩
set_option linter.unusedVariables false in
set_option maxRecDepth 1000000 in
set_option maxHeartbeats 4000000 in
theorem rfd_8n {Q : Exit → Act → World → Prop} {a : Act} {q gO : Nat} {xv : Cell.Val} {l' : List Cell.Val} {w3 : World} (hF : Fr 148 a [(1, .slice Ar nr cr), (2, .string role), (3, .pointer (some ⟨gX, 0, none⟩)), (6, .pointer (some ⟨gR, 0, none⟩)), (8, .slice Al q cl), (12, .pointer (some ⟨gO, 0, none⟩))]) (hX : Blk w2 gX 28 #[.int .u8 (o.toNat : Int), .int .u8 (k.toNat : Int), .int .i64 n, .string s, .string nm, .string of, .int .i64 N, .slice A m c]) (hZ : Blk w2 gR 25 #[.int .u8 0, .int .i64 0, .string ⟨#[]⟩]) (hR : w.heap.size ≤ gR) (hB : Below w.heap.size w w2) (hl : Rv w2 w2.heap.size Al q (xv :: l')) (hq : q ≤ nr) (hnr : nr * 32 ≤ 140737488355328) (ho : o.toNat = 19) (hb3 : Below w2.heap.size w2 w3) (hgO : w2.heap.size ≤ gO) (hO : Blk w3 gO 25 #[.int .u8 (xv.k.toNat : Int), .int .i64 xv.n, .string xv.s])
    (h0 : ∀ a' w' p, Fr 148 a' [(6, .pointer (some ⟨gR, 0, none⟩)), (7, .int .i64 (p.2 : Int))] → Fin w gR p w' → p = Ev.gat (fun a b => (Ev.pickB (-1) a b, 0)) (xv :: l') → Q .ret a' w') (h1 : ∀ a' w' t, Fr 148 a' [(1, .slice Ar nr cr), (2, .string role), (3, .pointer (some ⟨gX, 0, none⟩)), (6, .pointer (some ⟨gR, 0, none⟩)), (8, .slice Al q cl), (12, .pointer (some ⟨gO, 0, none⟩))] → Below w2.heap.size w2 w' → Blk w' gO 25 #[.int .u8 (t.k.toNat : Int), .int .i64 t.n, .string t.s] → Ev.gat (fun a b => (Ev.pickB (-1) a b, 0)) (xv :: l') = (t, 0) → Q .normal a' w') : (cL (rfd 8)).wp Tryz.prog Q a w3 := by
  conv => arg 2; whnf
  obtain ⟨f, rfl, ⟨s1, s2, s3, s6, s8, s12, _⟩, hfr⟩ := hF.open148
  rw [hfr] at s1 s2 s3 s6 s8 s12
  rw [s1, s2, s3, s6, s8, s12]
  clear hF hfr s1 s2 s3 s6 s8 s12
  have H := hide h0
  have H1 := hide h1
  have HX := hide hX
  have HZ := hide hZ
  have HB := hide hB
  have HL := hide hl
  have hgx := hX.lt
  have hlen := hl.len
  have hxok := hl.2 xv List.mem_cons_self
  have hz2 := hZ.lt
  have hqp : 1 ≤ q := by rw [← hlen]; simp
  have t17 : ((o.toNat : Int) == 18) = false := by simp; omega
  have t19 : ((o.toNat : Int) == 19) = true := by simp; omega
  have t20 : ((o.toNat : Int) == 20) = false := by simp; omega
  have hlo : w.heap.size ≤ gO := Nat.le_trans hB.size hgO
  clear h0 h1 hX hZ hB hl ho
  go_wp2_with fail
  refine wp_loop_ghost (RfI2 Ar nr cr role gX gR Al q cl gO (fun a b => (Ev.pickB (-1) a b, 0)) xv l' w2) (q - 1) ?_ ?_
  · refine ⟨1, xv, by omega, hqp, rfl, ?_, rfl, hxok, hO, hb3⟩
    exact ⟨rfl, rfl, rfl, rfl, rfl, rfl, rfl, rfl, rfl, trivial⟩
  clear hO hb3 hxok
  rintro gg a w5 ⟨j, ⟨k2, n2, s2⟩, hj1, hj, rfl, hF, hT, hvo, hO, hbel⟩
  have HT := hide hT
  have HVt := hide hvo
  have HO := hide hO
  have HB25 := hide hbel
  have hs5 := hbel.size
  have HB5 := hide (HB.out.trans (hbel.mono HB.out.size))
  have HZ5 := hide (HZ.out.below hbel hz2)
  have HX5 := hide (HX.out.below hbel hgx)
  clear hT hvo hO hbel
  obtain ⟨f, rfl, ⟨s1, s2, s3, s6, s8, s12, s13, _⟩, hfr⟩ := hF.open148
  rw [hfr] at s1 s2 s3 s6 s8 s12 s13
  rw [s1, s2, s3, s6, s8, s12, s13]
  clear hF hfr s1 s2 s3 s6 s8 s12 s13
  by_cases hlt : j < q
  · obtain ⟨b, off, kd, nn, ss, rfl, hbl, hlj, c0, c1, c2, hok⟩ := HL.out.at hlt
    have hbg : b < w5.heap.size := Nat.lt_of_lt_of_le hbl hs5
    replace c0 := (HB25.out.cell (p := ⟨b, off + j * 3, none⟩) hbl).trans c0
    replace c1 := (HB25.out.cell (p := ⟨b, off + j * 3 + 1, none⟩) hbl).trans c1
    replace c2 := (HB25.out.cell (p := ⟨b, off + j * 3 + 2, none⟩) hbl).trans c2
    have HLj : Hid (l'[j - 1]? = some ⟨kd, nn, ss⟩) := by
      show _ = _
      obtain ⟨j', rfl⟩ : ∃ j', j = j' + 1 := ⟨j - 1, by omega⟩
      simpa using hlj
    have HOk := hide hok
    have hgx5 : gX < w5.heap.size := Nat.lt_of_lt_of_le hgx hs5
    clear hlj hok
    have x0 := HX5.out.cell 0
    have x1 := HX5.out.cell 1
    have x2 := HX5.out.cell 2
    have x3 := HX5.out.cell 3
    have x4 := HX5.out.cell 4
    have x5 := HX5.out.cell 5
    have x6 := HX5.out.cell 6
    have x7 := HX5.out.cell 7
    simp at x0 x1 x2 x3 x4 x5 x6 x7
    have htk : l'.take (j + 1 - 1) = l'.take (j - 1) ++ [⟨kd, nn, ss⟩] := by
      obtain ⟨j', rfl⟩ : ∃ j', j = j' + 1 := ⟨j - 1, by omega⟩
      have := HLj.out
      simp only [Nat.add_sub_cancel] at this ⊢
      rw [List.take_add_one, this]
      rfl
    have HTk := hide htk
    clear htk
    obtain ⟨z, hz0⟩ : ∃ z, z = ordV ⟨kd, nn, ss⟩ ⟨k2, n2, s2⟩ := ⟨_, rfl⟩
    have HZz := hide hz0
    clear hz0
    by_cases hz : z < 0
    · have tz : decide (z < 0) = true := decide_eq_true hz
      have HT2 : Hid (Ev.gatL (fun a b => (Ev.pickB (-1) a b, 0)) xv (l'.take (j + 1 - 1)) = (⟨kd, nn, ss⟩, 0)) := by
        show _ = _
        rw [HTk.out]
        refine Ev.gatL_snoc HT.out ?_
        have hr := ordV_range ⟨kd, nn, ss⟩ ⟨k2, n2, s2⟩
        rw [← HZz.out] at hr
        unfold Ev.pickB
        rw [← HZz.out, if_pos (by omega)]
      clear hz
      go_upto_region 27 with fail
      have hTs := tab_stable (l := [(9, NoF)]) (fun p hp => by
          simp only [List.mem_cons, List.not_mem_nil, or_false] at hp
          subst hp
          exact NoF.stable)
      have hSs := shp_some (l := [(9, IsV (.int .i64 z))]) (fun p hp => by
          simp only [List.mem_cons, List.not_mem_nil, or_false] at hp
          subst hp
          exact IsV.some _)
      have HTs := hide hTs
      have HSs := hide hSs
      clear hTs hSs
      refine wp_region_toldL (tab [(9, NoF)]) (Up w5) (w5.heap.size) 27 (shp [(9, IsV (.int .i64 z))]) (HSs.out) (HTs.out) (Up.lives _) Gro (Gro.turns (Up.lives _) (HTs.out)) (by kernel_rfl) (by kernel_rfl) (Up.start _) (Nat.le_refl _) ?_
      simp only [List.take_succ_cons, List.take_zero, List.drop_succ_cons, List.drop_zero]
      refine wpTold_read ?_ rfl rfl (fun w' hS => ?_) ?_
      rotate_left
      · go_simp
        rfl
      go_frame
      refine wpTold_read ?_ rfl rfl (fun w' hS => ?_) ?_
      rotate_left
      · have l0 := (hS.cell (p := ⟨gX, 0, none⟩) hgx5).trans x0
        go_simp
        rfl
      go_frame
      refine wpTold_read ?_ rfl rfl (fun w' hS => ?_) ?_
      rotate_left
      · go_simp
        rfl
      go_frame
      refine wpTold_read ?_ rfl rfl (fun w' hS => ?_) ?_
      rotate_left
      · go_simp
        rfl
      go_frame
      refine wpTold_read ?_ rfl rfl (fun w' hS => ?_) ?_
      rotate_left
      · go_simp
        rfl
      go_frame
      refine wpTold_read ?_ rfl rfl (fun w' hS => ?_) ?_
      rotate_left
      · go_simp
        rfl
      go_frame
      refine wpTold_read ?_ rfl rfl (fun w' hS => ?_) ?_
      rotate_left
      · go_simp
        rfl
      go_frame
      refine wpTold_read ?_ rfl rfl (fun w' hS => ?_) ?_
      rotate_left
      · have l0 := (hS.cell (p := ⟨b, off + j * 3, none⟩) hbg).trans c0
        have l1 := (hS.cell (p := ⟨b, off + j * 3 + 1, none⟩) hbg).trans c1
        have l2 := (hS.cell (p := ⟨b, off + j * 3 + 2, none⟩) hbg).trans c2
        go_simp
        rfl
      go_frame
      refine wpTold_read ?_ rfl rfl (fun w' hS => ?_) ?_
      rotate_left
      · have l0 := (Blk.below (HO.out) hS HO.out.lt).cell 0
        have l1 := (Blk.below (HO.out) hS HO.out.lt).cell 1
        have l2 := (Blk.below (HO.out) hS HO.out.lt).cell 2
        simp at l0 l1 l2
        go_simp
        rfl
      go_frame
      refine' wpTold_call _ _ _ rfl rfl (fun w' => ?_) (fun w' hS hh hs => ?_) (fun v9 h9 => ?_)
      rotate_left 2
      · go_simp
        constructor <;> rfl
      · have cc := rOrder_any kd nn ss k2 n2 s2 w'
        rw [← HZz.out] at cc
        refine cc.mono ?_
        rintro e w9 ⟨rfl, hb⟩
        exact ⟨_, rfl, ⟨rfl, trivial⟩, hb⟩
      obtain rfl := h9
      go_frame
      refine wpTold_read ?_ rfl rfl (fun w' hS => ?_) ?_
      rotate_left
      · go_simp
        rfl
      go_frame
      refine wpTold_read ?_ rfl rfl (fun w' hS => ?_) ?_
      rotate_left
      · go_simp
        rfl
      go_frame
      refine wpTold_read ?_ rfl rfl (fun w' hS => ?_) ?_
      rotate_left
      · go_simp
        rfl
      go_frame
      refine wpTold_skip rfl rfl ?_
      go_frame
      refine wpTold_skip rfl rfl ?_
      go_frame
      refine wpTold_skip rfl rfl ?_
      go_frame
      refine wpTold_skip rfl rfl ?_
      go_frame
      refine wpTold_skip rfl rfl ?_
      go_frame
      refine wpTold_skip rfl rfl ?_
      go_frame
      refine wpTold_skip rfl rfl ?_
      go_frame
      refine wpTold_skip rfl rfl ?_
      go_frame
      refine wpTold_skip rfl rfl ?_
      go_frame
      refine wpTold_skip rfl rfl ?_
      go_frame
      refine wpTold_skip rfl rfl ?_
      go_frame
      refine wpTold_skip rfl rfl ?_
      go_frame
      refine wpTold_read ?_ rfl rfl (fun w' hS => ?_) ?_
      rotate_left
      · go_simp
        rfl
      go_frame
      refine wpTold_read ?_ rfl rfl (fun w' hS => ?_) ?_
      rotate_left
      · go_simp
        rfl
      go_frame
      refine wpTold_nil fun wS hH => ?_
      have hup : Below w5.heap.size w5 wS := hH.s
      have HB2S := hide (HB25.out.trans (hup.mono hs5))
      have HOS := hide (HO.out.below hup HO.out.lt)
      have c0' := (hup.cell (p := ⟨b, off + j * 3, none⟩) hbg).trans c0
      have c1' := (hup.cell (p := ⟨b, off + j * 3 + 1, none⟩) hbg).trans c1
      have c2' := (hup.cell (p := ⟨b, off + j * 3 + 2, none⟩) hbg).trans c2
      clear hH hup c0 c1 c2 x0 x1 x2 x3 x4 x5 x6 x7
      have z0 := HOS.out.cell 0
      have z1 := HOS.out.cell 1
      have z2 := HOS.out.cell 2
      simp at z0 z1 z2
      have f0 := HOS.out.frozen 0
      have f1 := HOS.out.frozen 1
      have f2 := HOS.out.frozen 2
      go_wp2_with fail
      refine ⟨q - (j + 1), by omega, j + 1, ⟨kd, nn, ss⟩, by omega, by omega, rfl, ?_, HT2.out, HOk.out, blk3 HOS.out _ _ _, ((HB2S.out.setCell hgO _).setCell hgO _).setCell hgO _⟩
      exact ⟨rfl, rfl, rfl, rfl, rfl, rfl, rfl, rfl, by go_num, trivial⟩
    · have tz : decide (z < 0) = false := decide_eq_false hz
      have HT2 : Hid (Ev.gatL (fun a b => (Ev.pickB (-1) a b, 0)) xv (l'.take (j + 1 - 1)) = (⟨k2, n2, s2⟩, 0)) := by
        show _ = _
        rw [HTk.out]
        refine Ev.gatL_snoc HT.out ?_
        have hr := ordV_range ⟨kd, nn, ss⟩ ⟨k2, n2, s2⟩
        rw [← HZz.out] at hr
        unfold Ev.pickB
        rw [← HZz.out, if_neg (by omega)]
      clear hz
      go_upto_region 27 with fail
      have hTs := tab_stable (l := [(9, NoF)]) (fun p hp => by
          simp only [List.mem_cons, List.not_mem_nil, or_false] at hp
          subst hp
          exact NoF.stable)
      have hSs := shp_some (l := [(9, IsV (.int .i64 z))]) (fun p hp => by
          simp only [List.mem_cons, List.not_mem_nil, or_false] at hp
          subst hp
          exact IsV.some _)
      have HTs := hide hTs
      have HSs := hide hSs
      clear hTs hSs
      refine wp_region_toldL (tab [(9, NoF)]) (Up w5) (w5.heap.size) 27 (shp [(9, IsV (.int .i64 z))]) (HSs.out) (HTs.out) (Up.lives _) Gro (Gro.turns (Up.lives _) (HTs.out)) (by kernel_rfl) (by kernel_rfl) (Up.start _) (Nat.le_refl _) ?_
      simp only [List.take_succ_cons, List.take_zero, List.drop_succ_cons, List.drop_zero]
      refine wpTold_read ?_ rfl rfl (fun w' hS => ?_) ?_
      rotate_left
      · go_simp
        rfl
      go_frame
      refine wpTold_read ?_ rfl rfl (fun w' hS => ?_) ?_
      rotate_left
      · have l0 := (hS.cell (p := ⟨gX, 0, none⟩) hgx5).trans x0
        go_simp
        rfl
      go_frame
      refine wpTold_read ?_ rfl rfl (fun w' hS => ?_) ?_
      rotate_left
      · go_simp
        rfl
      go_frame
      refine wpTold_read ?_ rfl rfl (fun w' hS => ?_) ?_
      rotate_left
      · go_simp
        rfl
      go_frame
      refine wpTold_read ?_ rfl rfl (fun w' hS => ?_) ?_
      rotate_left
      · go_simp
        rfl
      go_frame
      refine wpTold_read ?_ rfl rfl (fun w' hS => ?_) ?_
      rotate_left
      · go_simp
        rfl
      go_frame
      refine wpTold_read ?_ rfl rfl (fun w' hS => ?_) ?_
      rotate_left
      · go_simp
        rfl
      go_frame
      refine wpTold_read ?_ rfl rfl (fun w' hS => ?_) ?_
      rotate_left
      · have l0 := (hS.cell (p := ⟨b, off + j * 3, none⟩) hbg).trans c0
        have l1 := (hS.cell (p := ⟨b, off + j * 3 + 1, none⟩) hbg).trans c1
        have l2 := (hS.cell (p := ⟨b, off + j * 3 + 2, none⟩) hbg).trans c2
        go_simp
        rfl
      go_frame
      refine wpTold_read ?_ rfl rfl (fun w' hS => ?_) ?_
      rotate_left
      · have l0 := (Blk.below (HO.out) hS HO.out.lt).cell 0
        have l1 := (Blk.below (HO.out) hS HO.out.lt).cell 1
        have l2 := (Blk.below (HO.out) hS HO.out.lt).cell 2
        simp at l0 l1 l2
        go_simp
        rfl
      go_frame
      refine' wpTold_call _ _ _ rfl rfl (fun w' => ?_) (fun w' hS hh hs => ?_) (fun v9 h9 => ?_)
      rotate_left 2
      · go_simp
        constructor <;> rfl
      · have cc := rOrder_any kd nn ss k2 n2 s2 w'
        rw [← HZz.out] at cc
        refine cc.mono ?_
        rintro e w9 ⟨rfl, hb⟩
        exact ⟨_, rfl, ⟨rfl, trivial⟩, hb⟩
      obtain rfl := h9
      go_frame
      refine wpTold_read ?_ rfl rfl (fun w' hS => ?_) ?_
      rotate_left
      · go_simp
        rfl
      go_frame
      refine wpTold_read ?_ rfl rfl (fun w' hS => ?_) ?_
      rotate_left
      · go_simp
        rfl
      go_frame
      refine wpTold_read ?_ rfl rfl (fun w' hS => ?_) ?_
      rotate_left
      · go_simp
        rfl
      go_frame
      refine wpTold_read ?_ rfl rfl (fun w' hS => ?_) ?_
      rotate_left
      · go_simp
        rfl
      go_frame
      refine wpTold_read ?_ rfl rfl (fun w' hS => ?_) ?_
      rotate_left
      · have l0 := (hS.cell (p := ⟨gX, 0, none⟩) hgx5).trans x0
        go_simp
        rfl
      go_frame
      refine wpTold_read ?_ rfl rfl (fun w' hS => ?_) ?_
      rotate_left
      · go_simp
        rfl
      go_frame
      refine wpTold_read ?_ rfl rfl (fun w' hS => ?_) ?_
      rotate_left
      · go_simp
        rfl
      go_frame
      refine wpTold_skip rfl rfl ?_
      go_frame
      refine wpTold_skip rfl rfl ?_
      go_frame
      refine wpTold_skip rfl rfl ?_
      go_frame
      refine wpTold_skip rfl rfl ?_
      go_frame
      refine wpTold_skip rfl rfl ?_
      go_frame
      refine wpTold_skip rfl rfl ?_
      go_frame
      refine wpTold_skip rfl rfl ?_
      go_frame
      refine wpTold_read ?_ rfl rfl (fun w' hS => ?_) ?_
      rotate_left
      · go_simp
        rfl
      go_frame
      refine wpTold_read ?_ rfl rfl (fun w' hS => ?_) ?_
      rotate_left
      · go_simp
        rfl
      go_frame
      refine wpTold_read ?_ rfl rfl (fun w' hS => ?_) ?_
      rotate_left
      · go_simp
        rfl
      go_frame
      refine wpTold_nil fun wS hH => ?_
      have hup : Below w5.heap.size w5 wS := hH.s
      have HB2S := hide (HB25.out.trans (hup.mono hs5))
      have HOS := hide (HO.out.below hup HO.out.lt)
      have c0' := (hup.cell (p := ⟨b, off + j * 3, none⟩) hbg).trans c0
      have c1' := (hup.cell (p := ⟨b, off + j * 3 + 1, none⟩) hbg).trans c1
      have c2' := (hup.cell (p := ⟨b, off + j * 3 + 2, none⟩) hbg).trans c2
      clear hH hup c0 c1 c2 x0 x1 x2 x3 x4 x5 x6 x7
      go_wp2_with fail
      refine ⟨q - (j + 1), by omega, j + 1, ⟨k2, n2, s2⟩, by omega, by omega, rfl, ?_, HT2.out, HVt.out, HOS.out, HB2S.out⟩
      exact ⟨rfl, rfl, rfl, rfl, rfl, rfl, rfl, rfl, by go_num, trivial⟩
  · obtain rfl : j = q := by omega
    have HG : Hid (Ev.gat (fun a b => (Ev.pickB (-1) a b, 0)) (xv :: l') = (⟨k2, n2, s2⟩, 0)) := by
      show Ev.gatL _ _ _ = _
      have := HT.out
      rw [List.take_of_length_le (by simp at hlen; omega)] at this
      exact this
    go_wp2_with fail
    refine H1.out _ _ ⟨k2, n2, s2⟩ ?_ HB25.out HO.out HG.out
    exact ⟨rfl, rfl, rfl, rfl, rfl, rfl, rfl, rfl, trivial⟩
set_option linter.unusedVariables false in
set_option maxRecDepth 1000000 in
set_option maxHeartbeats 4000000 in
theorem rfd_8x {Q : Exit → Act → World → Prop} {a : Act} {q gO : Nat} {xv : Cell.Val} {l' : List Cell.Val} {w3 : World} (hF : Fr 148 a [(1, .slice Ar nr cr), (2, .string role), (3, .pointer (some ⟨gX, 0, none⟩)), (6, .pointer (some ⟨gR, 0, none⟩)), (8, .slice Al q cl), (12, .pointer (some ⟨gO, 0, none⟩))]) (hX : Blk w2 gX 28 #[.int .u8 (o.toNat : Int), .int .u8 (k.toNat : Int), .int .i64 n, .string s, .string nm, .string of, .int .i64 N, .slice A m c]) (hZ : Blk w2 gR 25 #[.int .u8 0, .int .i64 0, .string ⟨#[]⟩]) (hR : w.heap.size ≤ gR) (hB : Below w.heap.size w w2) (hl : Rv w2 w2.heap.size Al q (xv :: l')) (hq : q ≤ nr) (hnr : nr * 32 ≤ 140737488355328) (ho : o.toNat = 20) (hb3 : Below w2.heap.size w2 w3) (hgO : w2.heap.size ≤ gO) (hO : Blk w3 gO 25 #[.int .u8 (xv.k.toNat : Int), .int .i64 xv.n, .string xv.s])
    (h0 : ∀ a' w' p, Fr 148 a' [(6, .pointer (some ⟨gR, 0, none⟩)), (7, .int .i64 (p.2 : Int))] → Fin w gR p w' → p = Ev.gat (fun a b => (Ev.pickB (1) a b, 0)) (xv :: l') → Q .ret a' w') (h1 : ∀ a' w' t, Fr 148 a' [(1, .slice Ar nr cr), (2, .string role), (3, .pointer (some ⟨gX, 0, none⟩)), (6, .pointer (some ⟨gR, 0, none⟩)), (8, .slice Al q cl), (12, .pointer (some ⟨gO, 0, none⟩))] → Below w2.heap.size w2 w' → Blk w' gO 25 #[.int .u8 (t.k.toNat : Int), .int .i64 t.n, .string t.s] → Ev.gat (fun a b => (Ev.pickB (1) a b, 0)) (xv :: l') = (t, 0) → Q .normal a' w') : (cL (rfd 8)).wp Tryz.prog Q a w3 := by
  conv => arg 2; whnf
  obtain ⟨f, rfl, ⟨s1, s2, s3, s6, s8, s12, _⟩, hfr⟩ := hF.open148
  rw [hfr] at s1 s2 s3 s6 s8 s12
  rw [s1, s2, s3, s6, s8, s12]
  clear hF hfr s1 s2 s3 s6 s8 s12
  have H := hide h0
  have H1 := hide h1
  have HX := hide hX
  have HZ := hide hZ
  have HB := hide hB
  have HL := hide hl
  have hgx := hX.lt
  have hlen := hl.len
  have hxok := hl.2 xv List.mem_cons_self
  have hz2 := hZ.lt
  have hqp : 1 ≤ q := by rw [← hlen]; simp
  have t17 : ((o.toNat : Int) == 18) = false := by simp; omega
  have t19 : ((o.toNat : Int) == 19) = false := by simp; omega
  have t20 : ((o.toNat : Int) == 20) = true := by simp; omega
  have hlo : w.heap.size ≤ gO := Nat.le_trans hB.size hgO
  clear h0 h1 hX hZ hB hl ho
  go_wp2_with fail
  refine wp_loop_ghost (RfI2 Ar nr cr role gX gR Al q cl gO (fun a b => (Ev.pickB (1) a b, 0)) xv l' w2) (q - 1) ?_ ?_
  · refine ⟨1, xv, by omega, hqp, rfl, ?_, rfl, hxok, hO, hb3⟩
    exact ⟨rfl, rfl, rfl, rfl, rfl, rfl, rfl, rfl, rfl, trivial⟩
  clear hO hb3 hxok
  rintro gg a w5 ⟨j, ⟨k2, n2, s2⟩, hj1, hj, rfl, hF, hT, hvo, hO, hbel⟩
  have HT := hide hT
  have HVt := hide hvo
  have HO := hide hO
  have HB25 := hide hbel
  have hs5 := hbel.size
  have HB5 := hide (HB.out.trans (hbel.mono HB.out.size))
  have HZ5 := hide (HZ.out.below hbel hz2)
  have HX5 := hide (HX.out.below hbel hgx)
  clear hT hvo hO hbel
  obtain ⟨f, rfl, ⟨s1, s2, s3, s6, s8, s12, s13, _⟩, hfr⟩ := hF.open148
  rw [hfr] at s1 s2 s3 s6 s8 s12 s13
  rw [s1, s2, s3, s6, s8, s12, s13]
  clear hF hfr s1 s2 s3 s6 s8 s12 s13
  by_cases hlt : j < q
  · obtain ⟨b, off, kd, nn, ss, rfl, hbl, hlj, c0, c1, c2, hok⟩ := HL.out.at hlt
    have hbg : b < w5.heap.size := Nat.lt_of_lt_of_le hbl hs5
    replace c0 := (HB25.out.cell (p := ⟨b, off + j * 3, none⟩) hbl).trans c0
    replace c1 := (HB25.out.cell (p := ⟨b, off + j * 3 + 1, none⟩) hbl).trans c1
    replace c2 := (HB25.out.cell (p := ⟨b, off + j * 3 + 2, none⟩) hbl).trans c2
    have HLj : Hid (l'[j - 1]? = some ⟨kd, nn, ss⟩) := by
      show _ = _
      obtain ⟨j', rfl⟩ : ∃ j', j = j' + 1 := ⟨j - 1, by omega⟩
      simpa using hlj
    have HOk := hide hok
    have hgx5 : gX < w5.heap.size := Nat.lt_of_lt_of_le hgx hs5
    clear hlj hok
    have x0 := HX5.out.cell 0
    have x1 := HX5.out.cell 1
    have x2 := HX5.out.cell 2
    have x3 := HX5.out.cell 3
    have x4 := HX5.out.cell 4
    have x5 := HX5.out.cell 5
    have x6 := HX5.out.cell 6
    have x7 := HX5.out.cell 7
    simp at x0 x1 x2 x3 x4 x5 x6 x7
    have htk : l'.take (j + 1 - 1) = l'.take (j - 1) ++ [⟨kd, nn, ss⟩] := by
      obtain ⟨j', rfl⟩ : ∃ j', j = j' + 1 := ⟨j - 1, by omega⟩
      have := HLj.out
      simp only [Nat.add_sub_cancel] at this ⊢
      rw [List.take_add_one, this]
      rfl
    have HTk := hide htk
    clear htk
    obtain ⟨z, hz0⟩ : ∃ z, z = ordV ⟨kd, nn, ss⟩ ⟨k2, n2, s2⟩ := ⟨_, rfl⟩
    have HZz := hide hz0
    clear hz0
    by_cases hz : 0 < z
    · have tz : decide (0 < z) = true := decide_eq_true hz
      have HT2 : Hid (Ev.gatL (fun a b => (Ev.pickB (1) a b, 0)) xv (l'.take (j + 1 - 1)) = (⟨kd, nn, ss⟩, 0)) := by
        show _ = _
        rw [HTk.out]
        refine Ev.gatL_snoc HT.out ?_
        have hr := ordV_range ⟨kd, nn, ss⟩ ⟨k2, n2, s2⟩
        rw [← HZz.out] at hr
        unfold Ev.pickB
        rw [← HZz.out, if_pos (by omega)]
      clear hz
      go_upto_region 27 with fail
      have hTs := tab_stable (l := [(22, NoF)]) (fun p hp => by
          simp only [List.mem_cons, List.not_mem_nil, or_false] at hp
          subst hp
          exact NoF.stable)
      have hSs := shp_some (l := [(22, IsV (.int .i64 z))]) (fun p hp => by
          simp only [List.mem_cons, List.not_mem_nil, or_false] at hp
          subst hp
          exact IsV.some _)
      have HTs := hide hTs
      have HSs := hide hSs
      clear hTs hSs
      refine wp_region_toldL (tab [(22, NoF)]) (Up w5) (w5.heap.size) 27 (shp [(22, IsV (.int .i64 z))]) (HSs.out) (HTs.out) (Up.lives _) Gro (Gro.turns (Up.lives _) (HTs.out)) (by kernel_rfl) (by kernel_rfl) (Up.start _) (Nat.le_refl _) ?_
      simp only [List.take_succ_cons, List.take_zero, List.drop_succ_cons, List.drop_zero]
      refine wpTold_read ?_ rfl rfl (fun w' hS => ?_) ?_
      rotate_left
      · go_simp
        rfl
      go_frame
      refine wpTold_read ?_ rfl rfl (fun w' hS => ?_) ?_
      rotate_left
      · have l0 := (hS.cell (p := ⟨gX, 0, none⟩) hgx5).trans x0
        go_simp
        rfl
      go_frame
      refine wpTold_read ?_ rfl rfl (fun w' hS => ?_) ?_
      rotate_left
      · go_simp
        rfl
      go_frame
      refine wpTold_read ?_ rfl rfl (fun w' hS => ?_) ?_
      rotate_left
      · go_simp
        rfl
      go_frame
      refine wpTold_skip rfl rfl ?_
      go_frame
      refine wpTold_skip rfl rfl ?_
      go_frame
      refine wpTold_skip rfl rfl ?_
      go_frame
      refine wpTold_skip rfl rfl ?_
      go_frame
      refine wpTold_skip rfl rfl ?_
      go_frame
      refine wpTold_skip rfl rfl ?_
      go_frame
      refine wpTold_skip rfl rfl ?_
      go_frame
      refine wpTold_read ?_ rfl rfl (fun w' hS => ?_) ?_
      rotate_left
      · go_simp
        rfl
      go_frame
      refine wpTold_read ?_ rfl rfl (fun w' hS => ?_) ?_
      rotate_left
      · go_simp
        rfl
      go_frame
      refine wpTold_read ?_ rfl rfl (fun w' hS => ?_) ?_
      rotate_left
      · go_simp
        rfl
      go_frame
      refine wpTold_read ?_ rfl rfl (fun w' hS => ?_) ?_
      rotate_left
      · have l0 := (hS.cell (p := ⟨gX, 0, none⟩) hgx5).trans x0
        go_simp
        rfl
      go_frame
      refine wpTold_read ?_ rfl rfl (fun w' hS => ?_) ?_
      rotate_left
      · go_simp
        rfl
      go_frame
      refine wpTold_read ?_ rfl rfl (fun w' hS => ?_) ?_
      rotate_left
      · go_simp
        rfl
      go_frame
      refine wpTold_read ?_ rfl rfl (fun w' hS => ?_) ?_
      rotate_left
      · go_simp
        rfl
      go_frame
      refine wpTold_read ?_ rfl rfl (fun w' hS => ?_) ?_
      rotate_left
      · go_simp
        rfl
      go_frame
      refine wpTold_read ?_ rfl rfl (fun w' hS => ?_) ?_
      rotate_left
      · go_simp
        rfl
      go_frame
      refine wpTold_read ?_ rfl rfl (fun w' hS => ?_) ?_
      rotate_left
      · have l0 := (hS.cell (p := ⟨b, off + j * 3, none⟩) hbg).trans c0
        have l1 := (hS.cell (p := ⟨b, off + j * 3 + 1, none⟩) hbg).trans c1
        have l2 := (hS.cell (p := ⟨b, off + j * 3 + 2, none⟩) hbg).trans c2
        go_simp
        rfl
      go_frame
      refine wpTold_read ?_ rfl rfl (fun w' hS => ?_) ?_
      rotate_left
      · have l0 := (Blk.below (HO.out) hS HO.out.lt).cell 0
        have l1 := (Blk.below (HO.out) hS HO.out.lt).cell 1
        have l2 := (Blk.below (HO.out) hS HO.out.lt).cell 2
        simp at l0 l1 l2
        go_simp
        rfl
      go_frame
      refine' wpTold_call _ _ _ rfl rfl (fun w' => ?_) (fun w' hS hh hs => ?_) (fun v22 h22 => ?_)
      rotate_left 2
      · go_simp
        constructor <;> rfl
      · have cc := rOrder_any kd nn ss k2 n2 s2 w'
        rw [← HZz.out] at cc
        refine cc.mono ?_
        rintro e w9 ⟨rfl, hb⟩
        exact ⟨_, rfl, ⟨rfl, trivial⟩, hb⟩
      obtain rfl := h22
      go_frame
      refine wpTold_read ?_ rfl rfl (fun w' hS => ?_) ?_
      rotate_left
      · go_simp
        rfl
      go_frame
      refine wpTold_read ?_ rfl rfl (fun w' hS => ?_) ?_
      rotate_left
      · go_simp
        rfl
      go_frame
      refine wpTold_read ?_ rfl rfl (fun w' hS => ?_) ?_
      rotate_left
      · go_simp
        rfl
      go_frame
      refine wpTold_read ?_ rfl rfl (fun w' hS => ?_) ?_
      rotate_left
      · go_simp
        rfl
      go_frame
      refine wpTold_nil fun wS hH => ?_
      have hup : Below w5.heap.size w5 wS := hH.s
      have HB2S := hide (HB25.out.trans (hup.mono hs5))
      have HOS := hide (HO.out.below hup HO.out.lt)
      have c0' := (hup.cell (p := ⟨b, off + j * 3, none⟩) hbg).trans c0
      have c1' := (hup.cell (p := ⟨b, off + j * 3 + 1, none⟩) hbg).trans c1
      have c2' := (hup.cell (p := ⟨b, off + j * 3 + 2, none⟩) hbg).trans c2
      clear hH hup c0 c1 c2 x0 x1 x2 x3 x4 x5 x6 x7
      have z0 := HOS.out.cell 0
      have z1 := HOS.out.cell 1
      have z2 := HOS.out.cell 2
      simp at z0 z1 z2
      have f0 := HOS.out.frozen 0
      have f1 := HOS.out.frozen 1
      have f2 := HOS.out.frozen 2
      go_wp2_with fail
      refine ⟨q - (j + 1), by omega, j + 1, ⟨kd, nn, ss⟩, by omega, by omega, rfl, ?_, HT2.out, HOk.out, blk3 HOS.out _ _ _, ((HB2S.out.setCell hgO _).setCell hgO _).setCell hgO _⟩
      exact ⟨rfl, rfl, rfl, rfl, rfl, rfl, rfl, rfl, by go_num, trivial⟩
    · have tz : decide (0 < z) = false := decide_eq_false hz
      have HT2 : Hid (Ev.gatL (fun a b => (Ev.pickB (1) a b, 0)) xv (l'.take (j + 1 - 1)) = (⟨k2, n2, s2⟩, 0)) := by
        show _ = _
        rw [HTk.out]
        refine Ev.gatL_snoc HT.out ?_
        have hr := ordV_range ⟨kd, nn, ss⟩ ⟨k2, n2, s2⟩
        rw [← HZz.out] at hr
        unfold Ev.pickB
        rw [← HZz.out, if_neg (by omega)]
      clear hz
      go_upto_region 27 with fail
      have hTs := tab_stable (l := [(22, NoF)]) (fun p hp => by
          simp only [List.mem_cons, List.not_mem_nil, or_false] at hp
          subst hp
          exact NoF.stable)
      have hSs := shp_some (l := [(22, IsV (.int .i64 z))]) (fun p hp => by
          simp only [List.mem_cons, List.not_mem_nil, or_false] at hp
          subst hp
          exact IsV.some _)
      have HTs := hide hTs
      have HSs := hide hSs
      clear hTs hSs
      refine wp_region_toldL (tab [(22, NoF)]) (Up w5) (w5.heap.size) 27 (shp [(22, IsV (.int .i64 z))]) (HSs.out) (HTs.out) (Up.lives _) Gro (Gro.turns (Up.lives _) (HTs.out)) (by kernel_rfl) (by kernel_rfl) (Up.start _) (Nat.le_refl _) ?_
      simp only [List.take_succ_cons, List.take_zero, List.drop_succ_cons, List.drop_zero]
      refine wpTold_read ?_ rfl rfl (fun w' hS => ?_) ?_
      rotate_left
      · go_simp
        rfl
      go_frame
      refine wpTold_read ?_ rfl rfl (fun w' hS => ?_) ?_
      rotate_left
      · have l0 := (hS.cell (p := ⟨gX, 0, none⟩) hgx5).trans x0
        go_simp
        rfl
      go_frame
      refine wpTold_read ?_ rfl rfl (fun w' hS => ?_) ?_
      rotate_left
      · go_simp
        rfl
      go_frame
      refine wpTold_read ?_ rfl rfl (fun w' hS => ?_) ?_
      rotate_left
      · go_simp
        rfl
      go_frame
      refine wpTold_skip rfl rfl ?_
      go_frame
      refine wpTold_skip rfl rfl ?_
      go_frame
      refine wpTold_skip rfl rfl ?_
      go_frame
      refine wpTold_skip rfl rfl ?_
      go_frame
      refine wpTold_skip rfl rfl ?_
      go_frame
      refine wpTold_skip rfl rfl ?_
      go_frame
      refine wpTold_skip rfl rfl ?_
      go_frame
      refine wpTold_read ?_ rfl rfl (fun w' hS => ?_) ?_
      rotate_left
      · go_simp
        rfl
      go_frame
      refine wpTold_read ?_ rfl rfl (fun w' hS => ?_) ?_
      rotate_left
      · go_simp
        rfl
      go_frame
      refine wpTold_read ?_ rfl rfl (fun w' hS => ?_) ?_
      rotate_left
      · go_simp
        rfl
      go_frame
      refine wpTold_read ?_ rfl rfl (fun w' hS => ?_) ?_
      rotate_left
      · have l0 := (hS.cell (p := ⟨gX, 0, none⟩) hgx5).trans x0
        go_simp
        rfl
      go_frame
      refine wpTold_read ?_ rfl rfl (fun w' hS => ?_) ?_
      rotate_left
      · go_simp
        rfl
      go_frame
      refine wpTold_read ?_ rfl rfl (fun w' hS => ?_) ?_
      rotate_left
      · go_simp
        rfl
      go_frame
      refine wpTold_read ?_ rfl rfl (fun w' hS => ?_) ?_
      rotate_left
      · go_simp
        rfl
      go_frame
      refine wpTold_read ?_ rfl rfl (fun w' hS => ?_) ?_
      rotate_left
      · go_simp
        rfl
      go_frame
      refine wpTold_read ?_ rfl rfl (fun w' hS => ?_) ?_
      rotate_left
      · go_simp
        rfl
      go_frame
      refine wpTold_read ?_ rfl rfl (fun w' hS => ?_) ?_
      rotate_left
      · have l0 := (hS.cell (p := ⟨b, off + j * 3, none⟩) hbg).trans c0
        have l1 := (hS.cell (p := ⟨b, off + j * 3 + 1, none⟩) hbg).trans c1
        have l2 := (hS.cell (p := ⟨b, off + j * 3 + 2, none⟩) hbg).trans c2
        go_simp
        rfl
      go_frame
      refine wpTold_read ?_ rfl rfl (fun w' hS => ?_) ?_
      rotate_left
      · have l0 := (Blk.below (HO.out) hS HO.out.lt).cell 0
        have l1 := (Blk.below (HO.out) hS HO.out.lt).cell 1
        have l2 := (Blk.below (HO.out) hS HO.out.lt).cell 2
        simp at l0 l1 l2
        go_simp
        rfl
      go_frame
      refine' wpTold_call _ _ _ rfl rfl (fun w' => ?_) (fun w' hS hh hs => ?_) (fun v22 h22 => ?_)
      rotate_left 2
      · go_simp
        constructor <;> rfl
      · have cc := rOrder_any kd nn ss k2 n2 s2 w'
        rw [← HZz.out] at cc
        refine cc.mono ?_
        rintro e w9 ⟨rfl, hb⟩
        exact ⟨_, rfl, ⟨rfl, trivial⟩, hb⟩
      obtain rfl := h22
      go_frame
      refine wpTold_read ?_ rfl rfl (fun w' hS => ?_) ?_
      rotate_left
      · go_simp
        rfl
      go_frame
      refine wpTold_read ?_ rfl rfl (fun w' hS => ?_) ?_
      rotate_left
      · go_simp
        rfl
      go_frame
      refine wpTold_read ?_ rfl rfl (fun w' hS => ?_) ?_
      rotate_left
      · go_simp
        rfl
      go_frame
      refine wpTold_read ?_ rfl rfl (fun w' hS => ?_) ?_
      rotate_left
      · go_simp
        rfl
      go_frame
      refine wpTold_nil fun wS hH => ?_
      have hup : Below w5.heap.size w5 wS := hH.s
      have HB2S := hide (HB25.out.trans (hup.mono hs5))
      have HOS := hide (HO.out.below hup HO.out.lt)
      have c0' := (hup.cell (p := ⟨b, off + j * 3, none⟩) hbg).trans c0
      have c1' := (hup.cell (p := ⟨b, off + j * 3 + 1, none⟩) hbg).trans c1
      have c2' := (hup.cell (p := ⟨b, off + j * 3 + 2, none⟩) hbg).trans c2
      clear hH hup c0 c1 c2 x0 x1 x2 x3 x4 x5 x6 x7
      go_wp2_with fail
      refine ⟨q - (j + 1), by omega, j + 1, ⟨k2, n2, s2⟩, by omega, by omega, rfl, ?_, HT2.out, HVt.out, HOS.out, HB2S.out⟩
      exact ⟨rfl, rfl, rfl, rfl, rfl, rfl, rfl, rfl, by go_num, trivial⟩
  · obtain rfl : j = q := by omega
    have HG : Hid (Ev.gat (fun a b => (Ev.pickB (1) a b, 0)) (xv :: l') = (⟨k2, n2, s2⟩, 0)) := by
      show Ev.gatL _ _ _ = _
      have := HT.out
      rw [List.take_of_length_le (by simp at hlen; omega)] at this
      exact this
    go_wp2_with fail
    refine H1.out _ _ ⟨k2, n2, s2⟩ ?_ HB25.out HO.out HG.out
    exact ⟨rfl, rfl, rfl, rfl, rfl, rfl, rfl, rfl, trivial⟩
set_option linter.unusedVariables false in
set_option maxRecDepth 1000000 in
set_option maxHeartbeats 4000000 in
theorem rfd_9 {Q : Exit → Act → World → Prop} {a : Act} {q gO : Nat} {k3 : UInt8} {n3 : Int} {s3 : ByteArray} (hF : Fr 148 a [(1, .slice Ar nr cr), (2, .string role), (3, .pointer (some ⟨gX, 0, none⟩)), (6, .pointer (some ⟨gR, 0, none⟩)), (8, .slice Al q cl), (12, .pointer (some ⟨gO, 0, none⟩))]) (hZ : Blk w2 gR 25 #[.int .u8 0, .int .i64 0, .string ⟨#[]⟩]) (hR : w.heap.size ≤ gR) (hB : Below w.heap.size w w2) (hO : Blk w2 gO 25 #[.int .u8 (k3.toNat : Int), .int .i64 n3, .string s3])
    (h : ∀ a' w' p, Fr 148 a' [(6, .pointer (some ⟨gR, 0, none⟩)), (7, .int .i64 (p.2 : Int))] → Fin w gR p w' → p = (⟨k3, n3, s3⟩, 0) → Q .normal a' w') : (cL (rfd 9)).wp Tryz.prog Q a w2 := by
  conv => arg 2; whnf
  obtain ⟨f, rfl, ⟨s1, s2, s3, s6, s8, s12, _⟩, hfr⟩ := hF.open148
  rw [hfr] at s1 s2 s3 s6 s8 s12
  rw [s1, s2, s3, s6, s8, s12]
  clear hF hfr s1 s2 s3 s6 s8 s12
  have H := hide h
  have HO := hide hO
  clear h hO
  have HB := hide hB
  have HZ := hide hZ
  clear hB hZ
  have v0 := HO.out.cell 0
  have v1 := HO.out.cell 1
  have v2 := HO.out.cell 2
  simp at v0 v1 v2
  have z0 := HZ.out.cell 0
  have z1 := HZ.out.cell 1
  have z2 := HZ.out.cell 2
  simp at z0 z1 z2
  have f0 := HZ.out.frozen 0
  have f1 := HZ.out.frozen 1
  have f2 := HZ.out.frozen 2
  have HF : Hid (Fin w gR (⟨k3, n3, s3⟩, 0) (((w2.setCell ⟨gR, 0, none⟩ (.int .u8 (k3.toNat : Int))).setCell ⟨gR, 1, none⟩ (.int .i64 n3)).setCell ⟨gR, 2, none⟩ (.string s3))) := ⟨blk3 HZ.out _ _ _, below3 HB.out hR _ _ _⟩
  go_wp2_with fail
  refine H.out _ _ (⟨k3, n3, s3⟩, 0) ?_ HF.out rfl
  exact ⟨rfl, rfl, rfl, rfl, trivial⟩
theorem rfde0 : rfd 0 = .seq (cL (rfd 0)) (rfd 1) := by kernel_rfl
theorem rfde1 : rfd 1 = .seq (cL (rfd 1)) (rfd 2) := by kernel_rfl
theorem rfde2 : rfd 2 = .seq (cL (rfd 2)) (rfd 3) := by kernel_rfl
theorem rfde3 : rfd 3 = .seq (cL (rfd 3)) (rfd 4) := by kernel_rfl
theorem rfde4 : rfd 4 = .seq (cL (rfd 4)) (rfd 5) := by kernel_rfl
theorem rfde5 : rfd 5 = .seq (cL (rfd 5)) (rfd 6) := by kernel_rfl
theorem rfde6 : rfd 6 = .seq (cL (rfd 6)) (rfd 7) := by kernel_rfl
theorem rfde7 : rfd 7 = .seq (cL (rfd 7)) (rfd 8) := by kernel_rfl
theorem rfde8 : rfd 8 = .seq (cL (rfd 8)) (rfd 9) := by kernel_rfl
theorem rfde9 : rfd 9 = .seq (cL (rfd 9)) (rfd 10) := by kernel_rfl
theorem rfde10 : rfd 10 = .ret := by kernel_rfl
end
set_option linter.unusedVariables false in
set_option maxRecDepth 1000000 in
set_option maxHeartbeats 4000000 in
theorem rfold_any (d : Nat) (h : Ev.Hd) (ks : List Ev.Ex) (A : Option Addr) (m c : Nat) (Ar : Option Addr) (nr cr : Nat) (rs : List (List Cell.Val)) (role : ByteArray) (w : World) (hex : ExK w (· < w.heap.size) d A m ks) (hok : HdOk h) (hr : Rws w (· < w.heap.size) Ar nr rs) (hro : role.size ≤ 9223372036854775807) :
    Calls Tryz.prog 16 #[exV h A m c, .slice Ar nr cr, .string role] w fun e w' => e = .returned (ansV (Ev.fold h ks rs role)) ∧ Below w.heap.size w w' := by
  obtain ⟨o, ⟨k, n, s⟩, nm, of, N⟩ := h
  refine calls_of_wp Tryz.func16 (c := rfd 0) (by kernel_rfl) ?_
  unfold exV
  simp only
  have ret : ∀ a' w' gR p, Fr 148 a' [(6, .pointer (some ⟨gR, 0, none⟩)), (7, .int .i64 (p.2 : Int))] → Fin w gR p w' → p = Ev.fold ⟨o, ⟨k, n, s⟩, nm, of, N⟩ ks rs role → bodyPost Tryz.prog Tryz.f16 (fun e w' => e = .returned (ansV (Ev.fold ⟨o, ⟨k, n, s⟩, nm, of, N⟩ ks rs role)) ∧ Below w.heap.size w w') .ret a' w' := by
    intro a' w' gR p hF hf hp
    obtain ⟨h1, h2, s6, s7, _⟩ := hF
    exact bodyPost_ret (results_val rfl hf.blk s6 s7) h2 ⟨by rw [← hp]; rfl, hf.bel⟩
  have hF : Fr 148 { tmps := #[.agg #[.int .u8 (o.toNat : Int), .int .u8 (k.toNat : Int), .int .i64 n, .string s, .string nm, .string of, .int .i64 N, .slice A m c], .slice Ar nr cr, .string role] ++ Array.replicate (Tryz.f16.ntmps - (#[.agg #[.int .u8 (o.toNat : Int), .int .u8 (k.toNat : Int), .int .i64 n, .string s, .string nm, .string of, .int .i64 N, .slice A m c], .slice Ar nr cr, .string role] : Array Value).size) undef, defers := [] } [(0, .agg #[.int .u8 (o.toNat : Int), .int .u8 (k.toNat : Int), .int .i64 n, .string s, .string nm, .string of, .int .i64 N, .slice A m c]), (1, .slice Ar nr cr), (2, .string role)] := by
    rw [Tryz.ntmps16]
    exact ⟨by simp, rfl, by simp, by simp, by simp, trivial⟩
  revert hF
  generalize ({ tmps := #[.agg #[.int .u8 (o.toNat : Int), .int .u8 (k.toNat : Int), .int .i64 n, .string s, .string nm, .string of, .int .i64 N, .slice A m c], .slice Ar nr cr, .string role] ++ Array.replicate (Tryz.f16.ntmps - (#[.agg #[.int .u8 (o.toNat : Int), .int .u8 (k.toNat : Int), .int .i64 n, .string s, .string nm, .string of, .int .i64 N, .slice A m c], .slice Ar nr cr, .string role] : Array Value).size) undef, defers := [] } : Act) = a
  intro hF
  have hmk := hex.len.1
  rw [rfde0]
  refine wp_seq (rfd_0 hF ?_)
  clear hF
  intro a w1 gX gR hF hX hZ hR hB
  rw [rfde1]
  refine wp_seq (rfd_1 hF hX hZ hR hB (fun hb a' w' p hF' hf hp => ret a' w' gR p hF' hf ?_) ?_)
  · rw [hp]
    refine (Ev.fold_bad (h := ⟨o, ⟨k, n, s⟩, nm, of, N⟩) ?_ ?_).symm
    · rintro ⟨e1, e2⟩
      rw [e2] at hmk
      simp only at e1
      rcases hb with h | h | h | h
      · omega
      · omega
      · simp at hmk; omega
      · exact h.2 e1
    · rcases hb with h | h | h | h
      · exact .inl h
      · exact .inr (.inl h)
      · exact .inr (.inr (by omega))
      · exact .inr (.inr (by omega))
  clear hF
  intro hb a hF
  rw [rfde2]
  refine wp_seq (rfd_2 hF hX hZ hR hB (fun hm a' w' p hF' hf hp => ret a' w' gR p hF' hf ?_) ?_)
  · have : ks = [] := List.eq_nil_of_length_eq_zero (by omega)
    subst this
    rw [hp, Ev.fold_all (h := ⟨o, ⟨k, n, s⟩, nm, of, N⟩) (by show o.toNat = 17; omega), hr.1]
  clear hF
  intro hm a hF
  have hm1 : m = 1 := by omega
  subst hm1
  obtain ⟨x, hx⟩ : ∃ x, ks = [x] := by
    match ks, hmk with
    | [x], _ => exact ⟨x, rfl⟩
  have ho1 : 17 ≤ o.toNat := by omega
  have ho2 : o.toNat ≤ 20 := by omega
  have hnr := hr.2.1
  rw [rfde3]
  refine wp_seq (rfd_3 (w2 := w1) hF ?_)
  clear hF
  intro a hF
  rw [rfde4]
  refine wp_seq (rfd_4 hF hX hZ hR hB (hex.next hB) (hr.next hB) hro hx (fun a' w' p hF' hf he hv hc => ret a' w' gR p hF' hf ?_) ?_)
  · obtain ⟨l, hc⟩ := hc
    rw [hx, Ev.fold_err (h := ⟨o, ⟨k, n, s⟩, nm, of, N⟩) ho1 ho2 hc he]
    exact Prod.ext hv rfl
  clear hF hX hZ hB
  intro a w2 Al q cl l hF hX hZ hB hc hq hqn hl
  rw [rfde5]
  refine wp_seq (rfd_5 hF hX hZ hR hB (fun h17 a' w' p hF' hf hp => ret a' w' gR p hF' hf ?_) ?_)
  · rw [hp, hx, Ev.fold_ok (h := ⟨o, ⟨k, n, s⟩, nm, of, N⟩) ho1 ho2 hc, Ev.foldL_count h17, hq]
  clear hF
  intro h17 a hF
  rw [rfde6]
  have hz : ∀ l : List Cell.Val, l = [] → Ev.foldL o l = (Val.vz, 0) := by
    intro l e
    subst e
    have : o.toNat = 18 ∨ o.toNat = 19 ∨ o.toNat = 20 := by omega
    rcases this with h | h | h
    · rw [Ev.foldL_sum h]; rfl
    · rw [Ev.foldL_min h]; rfl
    · rw [Ev.foldL_max h]; rfl
  refine wp_seq (rfd_6 hF hZ hR hB (fun h0 a' w' p hF' hf hp => ret a' w' gR p hF' hf ?_) ?_)
  · rw [hp, hx, Ev.fold_ok (h := ⟨o, ⟨k, n, s⟩, nm, of, N⟩) ho1 ho2 hc, hz l (List.eq_nil_of_length_eq_zero (by omega))]
  clear hF
  intro h0 a hF
  rw [rfde7]
  refine wp_seq (rfd_7 hF hl h0 ?_)
  clear hF
  intro a w3 gO k0 n0 s0 hl0 hF hb3 hgO hO
  obtain ⟨l', hl'⟩ : ∃ l', l = ⟨k0, n0, s0⟩ :: l' := by
    match l, hl0 with
    | v :: l', h => exact ⟨l', by injection h with h; rw [h]⟩
  subst hl'
  have fin : ∀ (f : Cell.Val → Cell.Val → Cell.Val × Nat), Ev.foldL o (⟨k0, n0, s0⟩ :: l') = Ev.gat f (⟨k0, n0, s0⟩ :: l') → ∀ a' w' t, Fr 148 a' [(1, .slice Ar nr cr), (2, .string role), (3, .pointer (some ⟨gX, 0, none⟩)), (6, .pointer (some ⟨gR, 0, none⟩)), (8, .slice Al q cl), (12, .pointer (some ⟨gO, 0, none⟩))] → Below w2.heap.size w2 w' → Blk w' gO 25 #[.int .u8 (t.k.toNat : Int), .int .i64 t.n, .string t.s] → Ev.gat f (⟨k0, n0, s0⟩ :: l') = (t, 0) → (rfd 9).wp Tryz.prog (bodyPost Tryz.prog Tryz.f16 (fun e w' => e = .returned (ansV (Ev.fold ⟨o, ⟨k, n, s⟩, nm, of, N⟩ ks rs role)) ∧ Below w.heap.size w w')) a' w' := by
    intro f hf a' w' t hF' hB' hO' hg
    rw [rfde9]
    refine wp_seq (rfd_9 hF' (hZ.below hB' hZ.lt) hR (hB.trans (hB'.mono hB.size)) hO' ?_)
    intro a2 w4 p hF2 hf2 hp
    rw [rfde10]
    refine wp_ret (ret a2 w4 gR p hF2 hf2 ?_)
    rw [hp, hx, Ev.fold_ok (h := ⟨o, ⟨k, n, s⟩, nm, of, N⟩) ho1 ho2 hc, hf, hg]
  have rt : ∀ (f : Cell.Val → Cell.Val → Cell.Val × Nat), Ev.foldL o (⟨k0, n0, s0⟩ :: l') = Ev.gat f (⟨k0, n0, s0⟩ :: l') → ∀ a' w' p, Fr 148 a' [(6, .pointer (some ⟨gR, 0, none⟩)), (7, .int .i64 (p.2 : Int))] → Fin w gR p w' → p = Ev.gat f (⟨k0, n0, s0⟩ :: l') → bodyPost Tryz.prog Tryz.f16 (fun e w' => e = .returned (ansV (Ev.fold ⟨o, ⟨k, n, s⟩, nm, of, N⟩ ks rs role)) ∧ Below w.heap.size w w') .ret a' w' := by
    intro f hf a' w' p hF' hfi hp
    refine ret a' w' gR p hF' hfi ?_
    rw [hp, hx, Ev.fold_ok (h := ⟨o, ⟨k, n, s⟩, nm, of, N⟩) ho1 ho2 hc, hf]
  rw [rfde8]
  have : o.toNat = 18 ∨ o.toNat = 19 ∨ o.toNat = 20 := by omega
  rcases this with h18 | h19 | h20
  · exact wp_seq (rfd_8s hF hX hZ hR hB hl hqn hnr h18 hb3 hgO hO (rt _ (Ev.foldL_sum h18 _)) (fin _ (Ev.foldL_sum h18 _)))
  · exact wp_seq (rfd_8n hF hX hZ hR hB hl hqn hnr h19 hb3 hgO hO (rt _ (Ev.foldL_min h19 _)) (fin _ (Ev.foldL_min h19 _)))
  · exact wp_seq (rfd_8x hF hX hZ hR hB hl hqn hnr h20 hb3 hgO hO (rt _ (Ev.foldL_max h20 _)) (fin _ (Ev.foldL_max h20 _)))
end Go.Proofs.YticljmgcgjibpaaGreatDoor
