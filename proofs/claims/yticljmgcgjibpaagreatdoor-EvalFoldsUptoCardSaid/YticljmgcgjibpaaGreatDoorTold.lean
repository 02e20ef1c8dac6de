/-
  A rule for a region that draws its order, whose operations read, reckon, make blocks, or call functions that make memory: each operation of the head is taken once, in an order of ours; of what a call answers a fact is told that lives on where the world grows; what stands behind (the tail) is walked in order. Conditions: none. No program is named here.
-/
import Derived.Test.YticljmgcgjibpaaGreatDoorGrow
namespace Go.Proofs.YticljmgcgjibpaaGreatDoor
open Go Go.RowKit

section
variable {P : Program} {ops : Array Oper} {md : Region.Mode} {S : World → Prop} {h0 : Nat} {R : Nat → World → World → Prop} {Sh : Nat → Value → Prop} {mk : Bool}

abbrev Fact := Value → World → Prop
/-- What is known: the blocks that were made, the values that were told. -/
structure Known where
  bl : Made
  vl : Nat → Option Value
def Known.none : Known := ⟨Made.none, fun _ => Option.none⟩
def Known.make (m : Known) (i g : Nat) (o : Obj) : Known := ⟨m.bl.add i g o, m.vl⟩
def Known.told (m : Known) (i : Nat) (v : Value) : Known := ⟨m.bl, fun k => if k = i then some v else m.vl k⟩
theorem Known.told_comm (m : Known) {i j : Nat} (h : i ≠ j) (v u : Value) : (m.told i v).told j u = (m.told j u).told i v := by
  unfold Known.told
  congr 1
  funext k
  by_cases h1 : k = j
  · subst h1; simp [Ne.symm h]
  · simp [h1]
theorem Known.make_comm (m : Known) {i j : Nat} (h : i ≠ j) (g g' : Nat) (o o' : Obj) : (m.make i g o).make j g' o' = (m.make j g' o').make i g o := by
  unfold Known.make
  simp only [Made.add_comm m.bl h]
theorem Known.make_told (m : Known) (i j g : Nat) (o : Obj) (v : Value) : (m.make i g o).told j v = (m.told j v).make i g o := rfl
/-- The facts live on where the world only grows. -/
def Stable (T : Nat → Option Fact) : Prop := ∀ i Φ, T i = some Φ → ∀ (v : Value) (w w' : World), Φ v w → Below w.heap.size w w' → Φ v w'
/-- What the operations that tell a fact do to the world (R i: operation i): what is known lives on. -/
structure Turns (mk : Bool) (R : Nat → World → World → Prop) (S : World → Prop) (h0 : Nat) (T : Nat → Option Fact) : Prop where
  s : ∀ i w w', S w → R i w w' → S w'
  size : ∀ i w w', R i w w' → w.heap.size ≤ w'.heap.size
  block : mk = true → ∀ i w w', R i w w' → ∀ g o, h0 ≤ g → w.heap[g]? = some o → w'.heap[g]? = some o
  told : ∀ i k Φ, i ≠ k → T k = some Φ → ∀ v w w', Φ v w → R i w w' → Φ v w'
/-- Nothing is said of the values. -/
def Any : Nat → Value → Prop := fun _ _ => True
theorem Any.some : ∀ i, ∃ v, Any i v := fun _ => ⟨undef, trivial⟩
/-- They are slices (of n elements). -/
def IsSl (n : Nat) (v : Value) : Prop := ∃ A c, v = .slice A n c
/-- The world only grows. -/
def Gro : Nat → World → World → Prop := fun _ w w' => Below w.heap.size w w'
theorem Gro.turns {S : World → Prop} {h0 : Nat} {T : Nat → Option Fact} (hL : Lives S) (hT : Stable T) : Turns true Gro S h0 T :=
  ⟨fun _ w w' hs hb => hL w w' hs hb, fun _ _ _ hb => hb.size, fun _ _ _ _ hb _ _ _ ho => (hb.block _ (lt_of_block ho)).trans ho, fun _ k Φ _ hk v w w' hv hb => hT k Φ hk v w w' hv hb⟩
structure Holds (mk : Bool) (S : World → Prop) (h0 : Nat) (T : Nat → Option Fact) (m : Known) (w : World) : Prop where
  s : S w
  big : h0 ≤ w.heap.size
  lies : ∀ i g o, m.bl i = some (g, o) → w.heap[g]? = some o ∧ h0 ≤ g
  told : ∀ i v Φ, m.vl i = some v → T i = some Φ → Φ v w
  nomk : mk = false → m.bl = Made.none
theorem Holds.below {T : Nat → Option Fact} {m : Known} {w w' : World} (hL : Lives S) (hT : Stable T) (h : Holds mk S h0 T m w) (hb : Below w.heap.size w w') : Holds mk S h0 T m w' :=
  ⟨hL _ _ h.s hb, Nat.le_trans h.big hb.size, fun i g o hm => by
    obtain ⟨h1, h2⟩ := h.lies i g o hm
    exact ⟨(hb.block g (lt_of_block h1)).trans h1, h2⟩, fun i v Φ hv hΦ => hT i Φ hΦ v _ _ (h.told i v Φ hv hΦ) hb, h.nomk⟩
theorem Holds.made {T : Nat → Option Fact} {m : Known} {w : World} {i : Nat} {o : Obj} (hmk : mk = true) (hL : Lives S) (hT : Stable T) (h : Holds mk S h0 T m w) : Holds mk S h0 T (m.make i w.heap.size o) (w.alloc o) := by
  have hb : Below w.heap.size w (w.alloc o) := (Below.refl _ _).alloc (Nat.le_refl _) o
  have h2 := h.below hL hT hb
  refine ⟨h2.s, h2.big, fun j g o' hm => ?_, h2.told, fun e => by rw [hmk] at e; cases e⟩
  unfold Known.make Made.add at hm
  simp only at hm
  split at hm
  · injection hm with hm
    injection hm with h1 h2
    subst h1 h2
    exact ⟨heap_alloc_new w _, h.big⟩
  · exact h2.lies j g o' hm
/-- Op j waits for op k, at once or by others. -/
def ancB (md : Region.Mode) (ops : Array Oper) : Nat → Nat → Nat → Bool
  | 0, _, _ => false
  | f + 1, j, k => Region.waitsFor md ops j k || (List.range ops.size).any fun j' => Region.waitsFor md ops j j' && ancB md ops f j' k
theorem ancB_some {f j k : Nat} (h : ancB md ops f j k = true) : ∃ oj, ops[j]? = some oj := by
  cases f with
  | zero => cases h
  | succ f =>
    simp only [ancB, Bool.or_eq_true] at h
    rcases h with h | h
    · obtain ⟨oj, ho, _⟩ := Region.waitsFor_spec h
      exact ⟨oj, ho⟩
    · obtain ⟨j', _, h2⟩ := List.any_eq_true.1 h
      simp only [Bool.and_eq_true] at h2
      obtain ⟨oj, ho, _⟩ := Region.waitsFor_spec h2.1
      exact ⟨oj, ho⟩
def Closed (md : Region.Mode) (ops : Array Oper) (listed : Array Bool) : Prop := ∀ j oj, ops[j]? = some oj → listed.getD j false = true → ∀ e ∈ oj.after, Region.binds md e = true → listed.getD e.on false = true
theorem anc_listed {listed : Array Bool} (hc : Closed md ops listed) {k : Nat} : ∀ (f j : Nat) (oj : Oper), ops[j]? = some oj → (∀ e ∈ oj.after, Region.binds md e = true → listed.getD e.on false = true) → ancB md ops f j k = true → listed.getD k false = true := by
  intro f
  induction f with
  | zero => intro j oj _ _ h; cases h
  | succ f ih =>
    intro j oj ho hall h
    simp only [ancB, Bool.or_eq_true] at h
    rcases h with h | h
    · obtain ⟨oj', ho', e, he, hb, hon⟩ := Region.waitsFor_spec h
      have : oj' = oj := Option.some.inj (ho'.symm.trans ho)
      subst this
      rw [← hon]
      exact hall e he hb
    · obtain ⟨j', _, h2⟩ := List.any_eq_true.1 h
      simp only [Bool.and_eq_true] at h2
      obtain ⟨oj', ho', e, he, hb, hon⟩ := Region.waitsFor_spec h2.1
      have : oj' = oj := Option.some.inj (ho'.symm.trans ho)
      subst this
      have hl := hall e he hb
      rw [hon] at hl
      obtain ⟨ok, hok⟩ := ancB_some h2.2
      exact ih j' ok hok (fun e he hb => hc j' ok hok hl e he hb) h2.2
/-- What op j may lean on. -/
def Seen (md : Region.Mode) (ops : Array Oper) (T : Nat → Option Fact) (h0 j : Nat) (m : Known) (w : World) : Prop :=
  (∀ k v Φ, ancB md ops ops.size j k = true → m.vl k = some v → T k = some Φ → Φ v w) ∧ (∀ k g o, ancB md ops ops.size j k = true → m.bl k = some (g, o) → w.heap[g]? = some o ∧ h0 ≤ g)
def ToldRun (P : Program) (R : World → World → Prop) (Φ : Fact) (w : World) : Result Next → Prop
  | .ok (.value u) w' => Φ u w' ∧ R w w'
  | .ok .skip w' => Φ undef w' ∧ R w w'
  | .ok (.enter f args) w' => Calls P f args w' (fun e w'' => ∃ u, e = .returned u ∧ Φ u w'' ∧ R w w'')
  | _ => False
def DoesT (P : Program) (md : Region.Mode) (ops : Array Oper) (R : Nat → World → World → Prop) (Sh : Nat → Value → Prop) (T : Nat → Option Fact) (S : World → Prop) (h0 i : Nat) (o : Oper) (Φ : Fact) (a : Act) (m : Known) : Prop :=
  Region.wanted o (yielded ops a.tmps) = true ∧ ∀ w, S w → h0 ≤ w.heap.size → Seen md ops T h0 i m w → ToldRun P (R i) (fun u w' => Sh i u ∧ Φ u w') w ((execOp a.eval o).run P w)
def PureRun (v : Value) (w : World) : Result Next → Prop
  | .ok (.value u) w' => u = v ∧ w' = w
  | .ok .skip w' => v = undef ∧ w' = w
  | _ => False
def YieldsP (P : Program) (ops : Array Oper) (S : World → Prop) (o : Oper) (v : Value) (a : Act) : Prop :=
  (Region.wanted o (yielded ops a.tmps) = true ∧ ∀ w, S w → PureRun v w ((execOp a.eval o).run P w)) ∨
  (Region.wanted o (yielded ops a.tmps) = false ∧ v = undef)
theorem YieldsP.one {o : Oper} {v v' : Value} {a : Act} {w0 : World} (hS : S w0) (h : YieldsP P ops S o v a) (h' : YieldsP P ops S o v' a) : v = v' := by
  rcases h with ⟨hw, h⟩ | ⟨hw, rfl⟩
  · rcases h' with ⟨_, h'⟩ | ⟨hw', _⟩
    · have k := h w0 hS
      have k' := h' w0 hS
      generalize (execOp a.eval o).run P w0 = r at *
      cases r with
      | ok n w' =>
        cases n <;> simp only [PureRun] at k k'
        case value u => exact k.1.symm.trans k'.1
        case skip => exact k.1.trans k'.1.symm
      | halt x w' => simp only [PureRun] at k
    · rw [hw] at hw'; cases hw'
  · rcases h' with ⟨hw', _⟩ | ⟨_, rfl⟩
    · rw [hw] at hw'; cases hw'
    · rfl
theorem yields_makesP {o : Oper} {v : Value} {V : Option (Nat × Nat)} {b : Obj} {a : Act} {w0 : World} (hS : S w0) (h : YieldsP P ops S o v a) (h' : MakesG P ops S o V b a) : False := by
  rcases h with ⟨_, h⟩ | ⟨hw, _⟩
  · have k := h w0 hS
    rw [h'.2 w0 hS] at k
    simp only [PureRun] at k
    have := congrArg (fun w : World => w.heap.size) k.2
    simp at this
  · rw [h'.1] at hw; cases hw
theorem YieldsP.of_same {o : Oper} {v : Value} {a a' : Act} (hy : YieldsP P ops S o v a) (he : execOp a'.eval o = execOp a.eval o)
    (hw : Region.wanted o (yielded ops a'.tmps) = Region.wanted o (yielded ops a.tmps)) : YieldsP P ops S o v a' := by
  unfold YieldsP at *
  rw [he, hw]
  exact hy
theorem DoesT.of_same {T : Nat → Option Fact} {i : Nat} {o : Oper} {Φ : Fact} {a a' : Act} {m m' : Known} (hy : DoesT P md ops R Sh T S h0 i o Φ a m) (he : execOp a'.eval o = execOp a.eval o)
    (hw : Region.wanted o (yielded ops a'.tmps) = Region.wanted o (yielded ops a.tmps)) (hm : ∀ k, ancB md ops ops.size i k = true → m'.vl k = m.vl k ∧ m'.bl k = m.bl k) : DoesT P md ops R Sh T S h0 i o Φ a' m' := by
  unfold DoesT at *
  rw [he, hw]
  refine ⟨hy.1, fun w hS hh hs => hy.2 w hS hh ⟨fun k v Φ ha hv => hs.1 k v Φ ha (by rw [(hm k ha).1]; exact hv), fun k g o ha hg => hs.2 k g o ha (by rw [(hm k ha).2]; exact hg)⟩⟩
/-- One step, whichever kind. -/
def stepT (P : Program) (md : Region.Mode) (ops : Array Oper) (mk : Bool) (R : Nat → World → World → Prop) (Sh : Nat → Value → Prop) (T : Nat → Option Fact) (S : World → Prop) (h0 i : Nat) (o : Oper) (K : Act → Known → Prop) (a : Act) (m : Known) : Prop :=
  match T i with
  | some Φ => DoesT P md ops R Sh T S h0 i o Φ a m ∧ ∀ v, Sh i v → K (a.put o.dst v) (m.told i v)
  | none => (∃ v, YieldsP P ops S o v a ∧ K (a.put o.dst v) m) ∨ (mk = true ∧ ∃ V b, MakesG P ops S o V b a ∧ ∀ g, K (a.put o.dst (shapeV V g)) (m.make i g b))
theorem stepT_mono {T : Nat → Option Fact} {i : Nat} {o : Oper} {K K' : Act → Known → Prop} {a : Act} {m : Known} (h : ∀ a m, K a m → K' a m) (hh : stepT P md ops mk R Sh T S h0 i o K a m) : stepT P md ops mk R Sh T S h0 i o K' a m := by
  unfold stepT at *
  cases hT : T i with
  | some Φ =>
    simp only [hT] at hh ⊢
    exact ⟨hh.1, fun v hv => h _ _ (hh.2 v hv)⟩
  | none =>
    simp only [hT] at hh ⊢
    rcases hh with ⟨v, hv, hk⟩ | ⟨hmk, V, b, hv, hk⟩
    · exact .inl ⟨v, hv, h _ _ hk⟩
    · exact .inr ⟨hmk, V, b, hv, fun g => h _ _ (hk g)⟩
def tOp (P : Program) (md : Region.Mode) (ops : Array Oper) (mk : Bool) (R : Nat → World → World → Prop) (Sh : Nat → Value → Prop) (T : Nat → Option Fact) (S : World → Prop) (h0 i : Nat) (K : Act → Known → Prop) (a : Act) (m : Known) : Prop :=
  match ops[i]? with
  | none => K a m
  | some o => stepT P md ops mk R Sh T S h0 i o K a m
theorem tOp_mono {T : Nat → Option Fact} {i : Nat} {K K' : Act → Known → Prop} {a : Act} {m : Known} (h : ∀ a m, K a m → K' a m) (hh : tOp P md ops mk R Sh T S h0 i K a m) : tOp P md ops mk R Sh T S h0 i K' a m := by
  unfold tOp at *
  split
  · rename_i hi
    simp only [hi] at hh
    exact h _ _ hh
  · rename_i o hi
    simp only [hi] at hh
    exact stepT_mono h hh
theorem stepT_wp {T : Nat → Option Fact} {Q : Exit → Act → World → Prop} (hL : Lives S) (hT : Stable T) (hR : Turns mk R S h0 T) {i : Nat} {o : Oper} {a : Act} {m : Known} (hi : ops[i]? = some o) {K : Act → Known → Prop} (h : stepT P md ops mk R Sh T S h0 i o K a m) {w : World} (hS : Holds mk S h0 T m w)
    {K' : Act → World → Prop} (hK : ∀ a' m' w', Holds mk S h0 T m' w' → K a' m' → K' a' w') : wpOp P ops Q i K' a w := by
  unfold Go.wpOp
  simp only [hi]
  unfold stepT at h
  cases hTi : T i with
  | some Φ =>
    simp only [hTi] at h
    obtain ⟨⟨hw, hv⟩, hk⟩ := h
    simp only [hw, if_true]
    refine .inl ?_
    have := hv w hS.s hS.big ⟨fun k v Φ _ hv hΦ => hS.told k v Φ hv hΦ, fun k g o _ hg => hS.lies k g o hg⟩
    have fin : ∀ u w', (Sh i u ∧ Φ u w') → R i w w' → K' (a.put o.dst u) w' := fun u w' ⟨hsu, hu⟩ hb => by
      refine hK _ (m.told i u) _ ⟨hR.s i _ _ hS.s hb, Nat.le_trans hS.big (hR.size i _ _ hb), fun k g o hm => ?_, fun k v Ψ hkv hΨ => ?_, hS.nomk⟩ (hk u hsu)
      · obtain ⟨h1, h2⟩ := hS.lies k g o hm
        cases hmk : mk with
        | true => exact ⟨hR.block hmk i _ _ hb g o h2 h1, h2⟩
        | false =>
          have e : m.bl = Made.none := hS.nomk hmk
          have hm' : m.bl k = some (g, o) := hm
          rw [e] at hm'
          cases hm'
      unfold Known.told at hkv
      simp only at hkv
      split at hkv
      · rename_i e
        subst e
        rw [hTi] at hΨ
        injection hΨ with hΨ
        injection hkv with hkv
        subst hΨ hkv
        exact hu
      · rename_i hne
        exact hR.told i k Ψ (fun e => hne e.symm) hΨ v _ _ (hS.told k v Ψ hkv hΨ) hb
    unfold Oper.wp
    generalize (execOp a.eval o).run P w = r at *
    cases r with
    | ok n w' =>
      cases n <;> simp only [ToldRun] at this
      case value u => exact fin _ _ this.1 this.2
      case skip => exact fin _ _ this.1 this.2
      case enter f args =>
        refine Calls.mono this fun e w'' he => ?_
        obtain ⟨u, rfl, hu, hb⟩ := he
        exact fin _ _ hu hb
    | halt x w' => simp only [ToldRun] at this
  | none =>
    simp only [hTi] at h
    rcases h with ⟨v, hy, hk⟩ | ⟨hmk, V, b, ⟨hw, hv⟩, hk⟩
    · rcases hy with ⟨hw, hv⟩ | ⟨hw, rfl⟩
      · simp only [hw, if_true]
        refine .inl ?_
        have := hv w hS.s
        unfold Oper.wp
        generalize (execOp a.eval o).run P w = r at *
        cases r with
        | ok n w' =>
          cases n <;> simp only [PureRun] at this
          case value u => obtain ⟨rfl, rfl⟩ := this; exact hK _ _ _ hS hk
          case skip => obtain ⟨rfl, rfl⟩ := this; exact hK _ _ _ hS hk
        | halt x w' => simp only [PureRun] at this
      · simp only [hw, Bool.false_eq_true, if_false]
        exact hK _ _ _ hS hk
    · simp only [hw, if_true]
      refine .inl ?_
      unfold Oper.wp
      rw [hv w hS.s]
      exact hK _ _ _ (hS.made hmk hL hT) (hk _)
/-- What op i does is the same, whatever op j did before. -/
theorem tOp_put {T : Nat → Option Fact} (hSh : ∀ i, ∃ v, Sh i v) {w0 : World} (hS : S w0) {i j : Nat} {oi oj : Oper} (hji : j ≠ i) (hj : ops[j]? = some oj) (hap : oi.apart ops oj = true) (haj : ancB md ops ops.size j i = false) (hai : ancB md ops ops.size i j = false)
    (hsi : ∀ cs b, oi.op ≠ .select cs b) (hsj : ∀ cs b, oj.op ≠ .select cs b) {K : Act → Known → Prop} {a : Act} {m : Known}
    (h : stepT P md ops mk R Sh T S h0 i oi (fun a' m' => tOp P md ops mk R Sh T S h0 j K a' m') a m) :
    tOp P md ops mk R Sh T S h0 j (fun a' m' => stepT P md ops mk R Sh T S h0 i oi K a' m') a m := by
  obtain ⟨h1, h2, h3⟩ := Oper.apart_spec hap
  unfold tOp at *
  simp only [hj] at *
  have yj : ∀ {v u : Value}, YieldsP P ops S oj u (a.put oi.dst v) → YieldsP P ops S oj u a := fun {v u} hy => hy.of_same (execOp_put oj hsj a oi.dst v h1).symm (wanted_put oj a oi.dst v h1).symm
  have mj : ∀ {v : Value} {V b}, MakesG P ops S oj V b (a.put oi.dst v) → MakesG P ops S oj V b a := fun {v V b} hy => hy.of_same (execOp_put oj hsj a oi.dst v h1).symm (wanted_put oj a oi.dst v h1).symm
  have yi : ∀ {v u : Value}, YieldsP P ops S oi v a → YieldsP P ops S oi v (a.put oj.dst u) := fun {v u} hy => hy.of_same (execOp_put oi hsi a oj.dst u h3) (wanted_put oi a oj.dst u h3)
  have mi : ∀ {u : Value} {V b}, MakesG P ops S oi V b a → MakesG P ops S oi V b (a.put oj.dst u) := fun {u V b} hy => hy.of_same (execOp_put oi hsi a oj.dst u h3) (wanted_put oi a oj.dst u h3)
  have nj : ∀ k, ancB md ops ops.size j k = true → k ≠ i := fun k hk e => by subst e; rw [haj] at hk; cases hk
  have ni : ∀ k, ancB md ops ops.size i k = true → k ≠ j := fun k hk e => by subst e; rw [hai] at hk; cases hk
  have djt : ∀ {v : Value} {Ψ : Fact}, DoesT P md ops R Sh T S h0 j oj Ψ (a.put oi.dst v) (m.told i v) → DoesT P md ops R Sh T S h0 j oj Ψ a m := fun {v Ψ} hy => hy.of_same (execOp_put oj hsj a oi.dst v h1).symm (wanted_put oj a oi.dst v h1).symm fun k hk => by simp [Known.told, nj k hk]
  have djm : ∀ {v : Value} {g : Nat} {b : Obj} {Ψ : Fact}, DoesT P md ops R Sh T S h0 j oj Ψ (a.put oi.dst v) (m.make i g b) → DoesT P md ops R Sh T S h0 j oj Ψ a m := fun {v g b Ψ} hy => hy.of_same (execOp_put oj hsj a oi.dst v h1).symm (wanted_put oj a oi.dst v h1).symm fun k hk => by simp [Known.make, Made.add, nj k hk]
  have djn : ∀ {v : Value} {Ψ : Fact}, DoesT P md ops R Sh T S h0 j oj Ψ (a.put oi.dst v) m → DoesT P md ops R Sh T S h0 j oj Ψ a m := fun {v Ψ} hy => hy.of_same (execOp_put oj hsj a oi.dst v h1).symm (wanted_put oj a oi.dst v h1).symm fun k hk => ⟨rfl, rfl⟩
  have dit : ∀ {u : Value} {Φ : Fact}, DoesT P md ops R Sh T S h0 i oi Φ a m → DoesT P md ops R Sh T S h0 i oi Φ (a.put oj.dst u) (m.told j u) := fun {u Φ} hy => hy.of_same (execOp_put oi hsi a oj.dst u h3) (wanted_put oi a oj.dst u h3) fun k hk => by simp [Known.told, ni k hk]
  have dim : ∀ {u : Value} {g : Nat} {b : Obj} {Φ : Fact}, DoesT P md ops R Sh T S h0 i oi Φ a m → DoesT P md ops R Sh T S h0 i oi Φ (a.put oj.dst u) (m.make j g b) := fun {u g b Φ} hy => hy.of_same (execOp_put oi hsi a oj.dst u h3) (wanted_put oi a oj.dst u h3) fun k hk => by simp [Known.make, Made.add, ni k hk]
  have din : ∀ {u : Value} {Φ : Fact}, DoesT P md ops R Sh T S h0 i oi Φ a m → DoesT P md ops R Sh T S h0 i oi Φ (a.put oj.dst u) m := fun {u Φ} hy => hy.of_same (execOp_put oi hsi a oj.dst u h3) (wanted_put oi a oj.dst u h3) fun k hk => ⟨rfl, rfl⟩
  unfold stepT at *
  cases hTi : T i with
  | some Φ =>
    cases hTj : T j with
    | some Ψ =>
      simp only [hTi, hTj] at h ⊢
      obtain ⟨hd, hk⟩ := h
      obtain ⟨v0, hv0⟩ := hSh i
      exact ⟨djt (hk v0 hv0).1, fun u hu => ⟨dit hd, fun v hv => by rw [← Act.put_comm a v u h2, ← Known.told_comm m (Ne.symm hji)]; exact (hk v hv).2 u hu⟩⟩
    | none =>
      simp only [hTi, hTj] at h ⊢
      obtain ⟨hd, hk⟩ := h
      obtain ⟨v0, hv0⟩ := hSh i
      rcases hk v0 hv0 with ⟨u, hu, _⟩ | ⟨hmk, U, c, hu, _⟩
      · refine .inl ⟨u, yj hu, din hd, fun v hv => ?_⟩
        rcases hk v hv with ⟨u', hu', hk'⟩ | ⟨_, U', c', hu', _⟩
        · obtain rfl := YieldsP.one hS (yj hu) (yj hu')
          rw [← Act.put_comm a v u h2]
          exact hk'
        · exact absurd (yields_makesP hS (yj hu) (mj hu')) id
      · refine .inr ⟨hmk, U, c, mj hu, fun g' => ⟨dim hd, fun v hv => ?_⟩⟩
        rcases hk v hv with ⟨u', hu', _⟩ | ⟨_, U', c', hu', hk'⟩
        · exact absurd (yields_makesP hS (yj hu') (mj hu)) id
        · obtain ⟨rfl, rfl⟩ := MakesG.one hS (mj hu) (mj hu')
          rw [← Act.put_comm a v (shapeV U g') h2]
          exact hk' g'
  | none =>
    cases hTj : T j with
    | some Ψ =>
      simp only [hTi, hTj] at h ⊢
      rcases h with ⟨v, hy, hd, hk⟩ | ⟨hmk, V, b, hy, hk⟩
      · exact ⟨djn hd, fun u hu => .inl ⟨v, yi hy, by rw [← Act.put_comm a v u h2]; exact hk u hu⟩⟩
      · exact ⟨djm (hk 0).1, fun u hu => .inr ⟨hmk, V, b, mi hy, fun g => by rw [← Act.put_comm a (shapeV V g) u h2]; exact (hk g).2 u hu⟩⟩
    | none =>
      simp only [hTi, hTj] at h ⊢
      rcases h with ⟨v, hy, hk⟩ | ⟨hmk, V, b, hy, hk⟩
      · rcases hk with ⟨u, hu, hk⟩ | ⟨hmk, U, c, hu, hk⟩
        · exact .inl ⟨u, yj hu, .inl ⟨v, yi hy, by rw [← Act.put_comm a v u h2]; exact hk⟩⟩
        · exact .inr ⟨hmk, U, c, mj hu, fun g => .inl ⟨v, yi hy, by rw [← Act.put_comm a v (shapeV U g) h2]; exact hk g⟩⟩
      · rcases hk 0 with ⟨u, hu, _⟩ | ⟨_, U, c, hu, _⟩
        · refine .inl ⟨u, yj hu, .inr ⟨hmk, V, b, mi hy, fun g => ?_⟩⟩
          rcases hk g with ⟨u', hu', hk'⟩ | ⟨_, U', c', hu', _⟩
          · obtain rfl := YieldsP.one hS (yj hu) (yj hu')
            rw [← Act.put_comm a (shapeV V g) u h2]
            exact hk'
          · exact absurd (yields_makesP hS (yj hu) (mj hu')) id
        · refine .inr ⟨hmk, U, c, mj hu, fun g' => .inr ⟨hmk, V, b, mi hy, fun g => ?_⟩⟩
          rcases hk g with ⟨u', hu', _⟩ | ⟨_, U', c', hu', hk'⟩
          · exact absurd (yields_makesP hS (yj hu') (mj hu)) id
          · obtain ⟨rfl, rfl⟩ := MakesG.one hS (mj hu) (mj hu')
            rw [← Act.put_comm a (shapeV V g) (shapeV U g') h2, ← Known.make_comm m (Ne.symm hji)]
            exact hk' g'
/-! ### the order -/
structure HeadT (md : Region.Mode) (ops : Array Oper) (tl : List Nat) (listed : Array Bool) : Prop where
  size : listed.size = ops.size
  closed : Closed md ops listed
  tail : ∀ t ∈ tl, t < ops.size → listed.getD t true = false
theorem HeadT.set {tl : List Nat} {i : Nat} {listed : Array Bool} (inv : HeadT md ops tl listed) (hi : i ∈ Region.ready md ops listed) (hin : i ∉ tl) : HeadT md ops tl (listed.setIfInBounds i true) := by
  obtain ⟨_, oi, hoi, hall⟩ := mem_ready.1 hi
  refine ⟨by simp [inv.size], fun j oj hj hl e he hb => ?_, fun t ht ht' => by rw [getD_set_ne true (fun e => hin (by rw [e]; exact ht))]; exact inv.tail t ht ht'⟩
  by_cases hij : i = j
  · subst hij
    have : oj = oi := Option.some.inj (hj.symm.trans hoi)
    subst this
    exact getD_set_true (hall e he hb)
  · rw [getD_set_ne false hij] at hl
    exact getD_set_true (inv.closed j oj hj hl e he hb)
def sinkL (md : Region.Mode) (ops : Array Oper) (t0 : Nat) : List Nat → Bool
  | [] => true
  | i :: ys => ((ys ++ [t0]).any fun j => Region.waitsFor md ops j i) && sinkL md ops t0 ys
def chainL (md : Region.Mode) (ops : Array Oper) : List Nat → Bool
  | t :: t' :: ts => Region.waitsFor md ops t' t && chainL md ops (t' :: ts)
  | _ => true
theorem head_waits {t0 : Nat} {listed : Array Bool} (ht : listed.getD t0 true = false) (inv : Closed md ops listed) (hsz : listed.size = ops.size) : ∀ (hl : List Nat), sinkL md ops t0 hl = true → ∀ i ∈ hl, i < ops.size → listed.getD i true = false → t0 ∉ Region.ready md ops listed := by
  intro hl
  induction hl with
  | nil => intro _ i hi; cases hi
  | cons x ys ih =>
    intro hs i hi hlt hun hr
    simp only [sinkL, Bool.and_eq_true] at hs
    rcases List.mem_cons.1 hi with rfl | hi
    · obtain ⟨j, hj, hj2⟩ := List.any_eq_true.1 hs.1
      obtain ⟨oj, hoj, e, he, hb, hon⟩ := Region.waitsFor_spec hj2
      rcases List.mem_append.1 hj with hj | hj
      · cases hl : listed.getD j false with
        | true =>
          have h2 := inv j oj hoj hl e he hb
          rw [hon, getD_both hun] at h2
          cases h2
        | false =>
          have hjs : j < ops.size := (Array.getElem?_eq_some_iff.1 hoj).1
          exact ih hs.2 j hj hjs (getD_in (by rw [hsz]; exact hjs) hl) hr
      · have : j = t0 := by simpa using hj
        subst this
        obtain ⟨_, ot, hot, hall⟩ := mem_ready.1 hr
        have : oj = ot := Option.some.inj (hoj.symm.trans hot)
        subst this
        have h2 := hall e he hb
        rw [hon, getD_both hun] at h2
        cases h2
    · exact ih hs.2 i hi hlt hun hr
theorem chain_waits {listed : Array Bool} : ∀ (tl : List Nat), (∀ t ∈ tl, listed.getD t true = false) → chainL md ops tl = true → ∀ t ∈ tl.tail, t ∉ Region.ready md ops listed := by
  intro tl
  induction tl with
  | nil => intro _ _ t ht; cases ht
  | cons t ts ih =>
    intro ht hc
    cases ts with
    | nil => intro t ht; cases ht
    | cons t' ts =>
      simp only [chainL, Bool.and_eq_true] at hc
      intro u hu hr
      rcases List.mem_cons.1 hu with rfl | hu
      · obtain ⟨oj, hoj, e, he, hb, hon⟩ := Region.waitsFor_spec hc.1
        obtain ⟨_, ot, hot, hall⟩ := mem_ready.1 hr
        have : oj = ot := Option.some.inj (hoj.symm.trans hot)
        subst this
        have h2 := hall e he hb
        rw [hon, getD_both (ht t List.mem_cons_self)] at h2
        cases h2
      · exact ih (fun x hx => ht x (List.mem_cons_of_mem _ hx)) hc.2 u hu hr
/-- No operation of the tail comes up while one of the head waits. -/
def WaitsT (md : Region.Mode) (ops : Array Oper) (hl tl : List Nat) (listed0 : Array Bool) : Prop :=
  ∀ listed, HeadT md ops tl listed → (∀ j, listed0.getD j true = true → listed.getD j true = true) → (∃ i ∈ hl, i < ops.size ∧ listed.getD i true = false) → ∀ j ∈ Region.ready md ops listed, j ∈ hl ∧ j ∉ tl
theorem more_set {listed0 listed : Array Bool} {j : Nat} (h : ∀ k, listed0.getD k true = true → listed.getD k true = true) (k : Nat) (hk : listed0.getD k true = true) : (listed.setIfInBounds j true).getD k true = true := by
  by_cases hjk : j = k
  · subst hjk
    rcases Nat.lt_or_ge j listed.size with h' | h'
    · simp [h']
    · simp
  · rw [getD_set_ne true hjk]; exact h k hk
def wpAnyT (P : Program) (md : Region.Mode) (ops : Array Oper) (mk : Bool) (R : Nat → World → World → Prop) (Sh : Nat → Value → Prop) (T : Nat → Option Fact) (S : World → Prop) (h0 : Nat) (hl tl : List Nat) (L : Array Bool → Act → Known → Prop) : Nat → Array Bool → Act → Known → Prop
  | 0, listed, a, m => L listed a m
  | f + 1, listed, a, m =>
    Region.ready md ops listed ≠ [] ∧ ∀ i ∈ Region.ready md ops listed, (i ∈ hl ∧ i ∉ tl) ∧ tOp P md ops mk R Sh T S h0 i (wpAnyT P md ops mk R Sh T S h0 hl tl L f (listed.setIfInBounds i true)) a m
theorem wpAny_of_told {T : Nat → Option Fact} (hLv : Lives S) (hT : Stable T) (hR : Turns mk R S h0 T) {hl tl : List Nat} {g : Nat} {L : Array Bool → Act → Known → Prop} {Q' : Exit → Act → World → Prop} (hL : ∀ listed a m w, Holds mk S h0 T m w → L listed a m → wpAny P md ops Q' g listed a w) :
    ∀ (f : Nat) (listed : Array Bool) (a : Act) (m : Known) (w : World), Holds mk S h0 T m w → wpAnyT P md ops mk R Sh T S h0 hl tl L f listed a m → wpAny P md ops Q' (f + g) listed a w
  | 0, listed, a, m, w, hS, h => by rw [Nat.zero_add]; exact hL _ _ _ _ hS h
  | f + 1, listed, a, m, w, hS, h => by
    rw [show f + 1 + g = (f + g) + 1 by omega]
    refine ⟨fun h0 => absurd h0 h.1, fun i hi => ?_⟩
    have hf := (h.2 i hi).2
    obtain ⟨_, o, ho, _⟩ := mem_ready.1 hi
    unfold tOp at hf
    simp only [ho] at hf
    exact stepT_wp hLv hT hR ho hf hS fun a' m' w' hS' hk => wpAny_of_told hLv hT hR hL f _ a' m' w' hS' hk
theorem wpAnyT_first {T : Nat → Option Fact} (hSh : ∀ i, ∃ v, Sh i v) {w0 : World} (hS : S w0) {hl tl : List Nat} {listed0 : Array Bool} {i : Nat} {oi : Oper} {L : Array Bool → Act → Known → Prop} (hi : ops[i]? = some oi) (hihl : i ∈ hl) (hitl : i ∉ tl) (hsel : ∀ (j : Nat) (o : Oper) cs b, ops[j]? = some o → o.op ≠ .select cs b)
    (hw : WaitsT md ops hl tl listed0) (hdone : ∀ listed a m, L listed a m → ∀ j ∈ Region.ready md ops listed, j ∈ tl) :
    ∀ (f : Nat) (listed : Array Bool) (a : Act) (m : Known), HeadT md ops tl listed → (∀ j, listed0.getD j true = true → listed.getD j true = true) →
      (∀ j oj, ops[j]? = some oj → j ≠ i → listed.getD j true = false → (∀ e ∈ oj.after, Region.binds md e = true → e.on ≠ i) → oi.apart ops oj = true) →
      i ∈ Region.ready md ops listed →
      stepT P md ops mk R Sh T S h0 i oi (wpAnyT P md ops mk R Sh T S h0 hl tl L f (listed.setIfInBounds i true)) a m → wpAnyT P md ops mk R Sh T S h0 hl tl L (f + 1) listed a m := by
  have self : ∀ {K : Act → Known → Prop} {a : Act} {m : Known}, stepT P md ops mk R Sh T S h0 i oi K a m → tOp P md ops mk R Sh T S h0 i K a m := fun h => by
    unfold tOp
    simp only [hi]
    exact h
  have hilt : i < ops.size := (Array.getElem?_eq_some_iff.1 hi).1
  intro f
  induction f with
  | zero =>
    intro listed a m inv hmore _ hr H
    have hun := (mem_ready.1 hr).1
    refine ⟨fun h => (by rw [h] at hr; cases hr), fun j hj => ?_⟩
    have hjn := hw listed inv hmore ⟨i, hihl, hilt, hun⟩ j hj
    refine ⟨hjn, ?_⟩
    by_cases hji : j = i
    · subst hji; exact self H
    · exfalso
      have := ready_mono hj hji
      unfold stepT at H
      refine hjn.2 ?_
      split at H
      · obtain ⟨v0, hv0⟩ := hSh i
        exact hdone _ _ _ (H.2 v0 hv0) j this
      · rcases H with ⟨v, _, hk⟩ | ⟨_, V, b, _, hk⟩
        · exact hdone _ _ _ hk j this
        · exact hdone _ _ _ (hk 0) j this
  | succ f ih =>
    intro listed a m inv hmore hfree hr H
    obtain ⟨hun, oi', hoi', halli⟩ := mem_ready.1 hr
    have hoe : oi' = oi := Option.some.inj (hoi'.symm.trans hi)
    subst hoe
    refine ⟨fun h => (by rw [h] at hr; cases hr), fun j hj => ?_⟩
    have hjn := hw listed inv hmore ⟨i, hihl, hilt, hun⟩ j hj
    refine ⟨hjn, ?_⟩
    by_cases hji : j = i
    · subst hji; exact self H
    · obtain ⟨hjun, oj, hoj, hall⟩ := mem_ready.1 hj
      have hnot : ∀ e ∈ oj.after, Region.binds md e = true → e.on ≠ i := fun e he hb heq => by
        have h1 := hall e he hb
        rw [heq, getD_both hun] at h1
        cases h1
      have haj : ancB md ops ops.size j i = false := by
        cases h : ancB md ops ops.size j i with
        | false => rfl
        | true =>
          have := anc_listed inv.closed _ j oj hoj hall h
          rw [getD_both hun] at this
          cases this
      have hai : ancB md ops ops.size i j = false := by
        cases h : ancB md ops ops.size i j with
        | false => rfl
        | true =>
          have := anc_listed inv.closed _ i oi' hi halli h
          rw [getD_both hjun] at this
          cases this
      have h1 : stepT P md ops mk R Sh T S h0 i oi' (fun a' m' => tOp P md ops mk R Sh T S h0 j (wpAnyT P md ops mk R Sh T S h0 hl tl L f ((listed.setIfInBounds i true).setIfInBounds j true)) a' m') a m := stepT_mono (fun a' m' h' => (h'.2 j (ready_mono hj hji)).2) H
      have h2 := tOp_put hSh hS hji hoj (hfree j oj hoj hji hjun hnot) haj hai (fun cs b => hsel i oi' cs b hi) (fun cs b => hsel j oj cs b hoj) h1
      have hfree' : ∀ k ok, ops[k]? = some ok → k ≠ i → (listed.setIfInBounds j true).getD k true = false →
          (∀ e ∈ ok.after, Region.binds md e = true → e.on ≠ i) → oi'.apart ops ok = true := fun k ok hk hki hun hno => by
        refine hfree k ok hk hki ?_ hno
        by_cases hjk : j = k
        · subst hjk; exact hjun
        · rw [getD_set_ne true hjk] at hun; exact hun
      refine tOp_mono (fun a' m' h3 => ih (listed.setIfInBounds j true) a' m' (inv.set hj hjn.2) (fun k hk => more_set hmore k hk) hfree' (ready_mono hr (Ne.symm hji)) ?_) h2
      rw [Array.setIfInBounds_comm _ _ hji]
      exact h3
/-- Operations in an order of ours. -/
def wpTold (P : Program) (md : Region.Mode) (ops : Array Oper) (mk : Bool) (R : Nat → World → World → Prop) (Sh : Nat → Value → Prop) (T : Nat → Option Fact) (S : World → Prop) (h0 : Nat) (Q : Act → Known → Prop) : List Nat → Act → Known → Prop
  | [], a, m => Q a m
  | i :: rest, a, m => match ops[i]? with
    | some o => stepT P md ops mk R Sh T S h0 i o (wpTold P md ops mk R Sh T S h0 Q rest) a m
    | none => False
def seqL (md : Region.Mode) (ops : Array Oper) : List Nat → Array Bool → Bool
  | [], listed => (Region.ready md ops listed).isEmpty
  | t :: ts, listed => decide (Region.ready md ops listed = [t]) && seqL md ops ts (listed.setIfInBounds t true)
def lexL (md : Region.Mode) (ops : Array Oper) (tl : List Nat) : List Nat → Array Bool → Bool
  | [], listed => seqL md ops tl listed
  | i :: rest, listed => (Region.ready md ops listed).contains i && Region.free md ops listed i && lexL md ops tl rest (listed.setIfInBounds i true)
theorem wpAny_of_seqL {Q' : Exit → Act → World → Prop} : ∀ (tl : List Nat) (listed : Array Bool) (a : Act) (w : World),
    seqL md ops tl listed = true → wpList P ops Q' (tl.filterMap fun t => ops[t]?) a w → wpAny P md ops Q' tl.length listed a w
  | [], _, _, _, hB, h => ⟨by simpa [seqL] using hB, h⟩
  | t :: ts, listed, a, w, hB, h => by
    simp only [seqL, Bool.and_eq_true, decide_eq_true_eq] at hB
    obtain ⟨_, o, ho, _⟩ := mem_ready.1 (show t ∈ Region.ready md ops listed by rw [hB.1]; exact List.mem_cons_self)
    refine ⟨fun h1 => (by rw [hB.1] at h1; cases h1), fun i hi => ?_⟩
    rw [hB.1] at hi
    have hik : i = t := by simpa using hi
    subst hik
    rw [List.filterMap_cons_some ho] at h
    have hw : wpOp P ops Q' i (wpList P ops Q' (ts.filterMap fun t => ops[t]?)) a w := by unfold wpOp; simp only [ho]; exact h
    exact wpOp_mono (fun a' w' h' => wpAny_of_seqL ts _ a' w' hB.2 h') hw
theorem seqL_ready {tl : List Nat} {listed : Array Bool} (h : seqL md ops tl listed = true) : ∀ j ∈ Region.ready md ops listed, j ∈ tl := by
  cases tl with
  | nil => intro j hj; simp only [seqL, List.isEmpty_iff] at h; rw [h] at hj; cases hj
  | cons t ts =>
    intro j hj
    simp only [seqL, Bool.and_eq_true, decide_eq_true_eq] at h
    rw [h.1] at hj
    have : j = t := by simpa using hj
    rw [this]
    exact List.mem_cons_self
theorem wpAnyT_lex {T : Nat → Option Fact} (hSh : ∀ i, ∃ v, Sh i v) {w0 : World} (hS : S w0) {hl tl : List Nat} {listed0 : Array Bool} {Lq : Act → Known → Prop} (hsel : Region.noSelect ops = true) (hw : WaitsT md ops hl tl listed0) (hdis : ∀ i ∈ hl, i ∉ tl) :
    ∀ (l : List Nat) (listed : Array Bool) (a : Act) (m : Known), (∀ i ∈ l, i ∈ hl) → HeadT md ops tl listed → (∀ j, listed0.getD j true = true → listed.getD j true = true) → lexL md ops tl l listed = true → wpTold P md ops mk R Sh T S h0 Lq l a m →
    wpAnyT P md ops mk R Sh T S h0 hl tl (fun listed' a' m' => seqL md ops tl listed' = true ∧ Lq a' m') l.length listed a m
  | [], listed, a, m, _, inv, _, hB, h => ⟨by simpa [lexL] using hB, h⟩
  | i :: l, listed, a, m, hsub, inv, hmore, hB, h => by
    simp only [lexL, Bool.and_eq_true] at hB
    obtain ⟨⟨hr, hf⟩, hB'⟩ := hB
    have hr' : i ∈ Region.ready md ops listed := by simpa using hr
    obtain ⟨_, o, ho, _⟩ := mem_ready.1 hr'
    simp only [wpTold, ho] at h
    have hi := hsub i List.mem_cons_self
    exact wpAnyT_first hSh hS ho hi (hdis i hi) (Region.noSelect_spec hsel) hw (fun listed' a' m' hL => seqL_ready hL.1) l.length listed a m inv hmore (Region.free_spec ho hf) hr'
      (stepT_mono (fun a' m' h' => wpAnyT_lex hSh hS hsel hw hdis l _ a' m' (fun k hk => hsub k (List.mem_cons_of_mem _ hk)) (inv.set hr' (hdis i hi)) (fun k hk => more_set hmore k hk) hB' h') h)
/-- What is listed is listed with all that it waits for. -/
def closedB (md : Region.Mode) (ops : Array Oper) (listed : Array Bool) : Bool :=
  (List.range ops.size).all fun j => !listed.getD j false || ((ops[j]?).map (·.after.all fun e => !Region.binds md e || listed.getD e.on false)).getD true
theorem closedB_spec {listed : Array Bool} (h : closedB md ops listed = true) : Closed md ops listed := by
  intro j oj hj hl e he hb
  have h1 := List.all_eq_true.1 h j (List.mem_range.2 (Array.getElem?_eq_some_iff.1 hj).1)
  simp only [hl, hj, Bool.not_true, Bool.false_or, Option.map_some, Option.getD_some] at h1
  have h2 := Array.all_eq_true_iff_forall_mem.1 h1 e he
  simp only [hb, Bool.not_true, Bool.false_or] at h2
  exact h2
def toldB (md : Region.Mode) (ops : Array Oper) (hl tl : List Nat) (listed : Array Bool) : Bool :=
  Region.noSelect ops && decide (listed.size = ops.size) && closedB md ops listed && ((List.range ops.size).all fun i => listed.getD i true || hl.contains i || tl.contains i) && (hl.all fun i => !tl.contains i) &&
    (match tl with | t0 :: _ => sinkL md ops t0 hl | [] => true) && chainL md ops tl && (tl.all fun t => decide (t < ops.size) && !listed.getD t true) && lexL md ops tl hl listed
/-- The rule, from any place on. hl: the head's operations, in an order of ours; tl: the tail's. -/
theorem wpAny_told {Q : Exit → Act → World → Prop} {a : Act} {w : World} {n : Nat} {listed : Array Bool} (T : Nat → Option Fact) (S : World → Prop) (h0 : Nat) (hl tl : List Nat) (Sh : Nat → Value → Prop) (hSh : ∀ i, ∃ v, Sh i v) (hT : Stable T) (hLv : Lives S) (R : Nat → World → World → Prop) (hR : Turns mk R S h0 T) (hn : hl.length + tl.length = n) (hB : toldB md ops hl tl listed = true)
    (hS : S w) (hh : h0 ≤ w.heap.size)
    (h : wpTold P md ops mk R Sh T S h0 (fun a' m' => ∀ w', Holds mk S h0 T m' w' → wpList P ops Q (tl.filterMap fun t => ops[t]?) a' w') hl a Known.none) : wpAny P md ops Q n listed a w := by
  simp only [toldB, Bool.and_eq_true, decide_eq_true_eq] at hB
  obtain ⟨⟨⟨⟨⟨⟨⟨⟨hsel, hlen⟩, hclo⟩, hcov⟩, hdis⟩, hsink⟩, hchain⟩, htl⟩, hlex⟩ := hB
  have hdis' : ∀ i ∈ hl, i ∉ tl := fun i hi ht => by
    have := List.all_eq_true.1 hdis i hi
    simp [ht] at this
  have htl' : ∀ t ∈ tl, t < ops.size ∧ listed.getD t true = false := fun t ht => by
    have := List.all_eq_true.1 htl t ht
    simpa using this
  -- what is listed at the start stays listed: an invariant on the lists that are met
  have inv0 : HeadT md ops tl listed := ⟨hlen, closedB_spec hclo, fun t ht _ => (htl' t ht).2⟩
  have hw : WaitsT md ops hl tl listed := by
    intro listed' inv hmore hex j hj
    obtain ⟨i, hi, hilt, hun⟩ := hex
    obtain ⟨hjun, oj, hoj, _⟩ := mem_ready.1 hj
    have hjlt : j < ops.size := (Array.getElem?_eq_some_iff.1 hoj).1
    have hnt : j ∉ tl := by
      intro hjt
      have hall : ∀ t ∈ tl, listed'.getD t true = false := fun t ht => inv.tail t ht (htl' t ht).1
      cases htl2 : tl with
      | nil => rw [htl2] at hjt; cases hjt
      | cons t0 ts =>
        rw [htl2] at hjt hsink hchain hall
        rcases List.mem_cons.1 hjt with rfl | hjt
        · exact head_waits (hall j List.mem_cons_self) inv.closed inv.size hl hsink i hi hilt hun hj
        · exact chain_waits (t0 :: ts) hall hchain j hjt hj
    refine ⟨?_, hnt⟩
    have := List.all_eq_true.1 hcov j (List.mem_range.2 hjlt)
    simp only [Bool.or_eq_true, List.contains_iff_mem] at this
    rcases this with (h | h) | h
    · have := hmore j h
      rw [hjun] at this
      cases this
    · exact h
    · exact absurd h hnt
  have H := wpAnyT_lex hSh hS hsel hw hdis' hl _ a Known.none (fun i hi => hi) inv0 (fun _ h => h) hlex h
  have := wpAny_of_told (h0 := h0) hLv hT hR (Q' := Q) (g := tl.length) (fun listed a' m' w' hS' hL => wpAny_of_seqL tl listed a' w' hL.1 (hL.2 w' hS')) _ _ _ _ _ ⟨hS, hh, fun i g o hm => (by cases hm), fun i v Φ hv _ => (by cases hv), fun _ => rfl⟩ H
  rw [hn] at this
  exact this
/-- The rule for a region. -/
theorem wp_region_told {id : Nat} {Q : Exit → Act → World → Prop} {a : Act} {w : World} {l : List Oper} (T : Nat → Option Fact) (S : World → Prop) (h0 : Nat) (hl tl : List Nat) (Sh : Nat → Value → Prop) (hSh : ∀ i, ∃ v, Sh i v) (hT : Stable T) (hLv : Lives S) (R : Nat → World → World → Prop) (hR : Turns mk R S h0 T) (hm : P.follows .mixedOrders = true) (hn : hl.length + tl.length = l.toArray.size) (hB : toldB .any l.toArray hl tl (Array.replicate l.toArray.size false) = true)
    (hS : S { w with drawn := w.drawn + 1 }) (hh : h0 ≤ w.heap.size)
    (h : wpTold P .any l.toArray mk R Sh T S h0 (fun a' m' => ∀ w', Holds mk S h0 T m' w' → wpList P l.toArray Q (tl.filterMap fun t => l.toArray[t]?) a' w') hl a Known.none) : (Code.region id l.toArray true).wp P Q a w :=
  wp_region_any hm (wpAny_told T S h0 hl tl Sh hSh hT hLv R hR hn hB hS hh h)
/-- What was there when the region began is as it was. -/
def Up (w0 w' : World) : Prop := Below w0.heap.size w0 w'
theorem Up.lives (w0 : World) : Lives (Up w0) := fun _ _ h hb => Below.trans h (hb.mono h.size)
theorem Up.start (w0 : World) : Up w0 { w0 with drawn := w0.drawn + 1 } := (Below.refl w0.heap.size w0).drew
/-! ### tables of facts and of shapes -/
def StableF (Φ : Fact) : Prop := ∀ (v : Value) (w w' : World), Φ v w → Below w.heap.size w w' → Φ v w'
def tab (l : List (Nat × Fact)) : Nat → Option Fact := fun i => (l.find? (·.1 == i)).map (·.2)
theorem tab_stable {l : List (Nat × Fact)} (h : ∀ p ∈ l, StableF p.2) : Stable (tab l) := by
  intro i Φ hi v w w' hv hb
  unfold tab at hi
  obtain ⟨p, hp, rfl⟩ := Option.map_eq_some_iff.1 hi
  exact h p (List.mem_of_find?_eq_some hp) v w w' hv hb
def shp (l : List (Nat × (Value → Prop))) : Nat → Value → Prop := fun i v => match l.find? (·.1 == i) with
  | some p => p.2 v
  | none => True
theorem shp_some {l : List (Nat × (Value → Prop))} (h : ∀ p ∈ l, ∃ v, p.2 v) : ∀ i, ∃ v, shp l i v := by
  intro i
  unfold shp
  split
  · rename_i p hp
    exact h p (List.mem_of_find?_eq_some hp)
  · exact ⟨undef, trivial⟩
theorem IsSl.some (n : Nat) : ∃ v, IsSl n v := ⟨.slice Option.none n 0, _, _, rfl⟩
/-- Just this value. -/
def IsV (c : Value) (v : Value) : Prop := v = c
theorem IsV.some (c : Value) : ∃ v, IsV c v := ⟨c, rfl⟩
/-- Nothing is told of the world. -/
def NoF : Fact := fun _ _ => True
theorem NoF.stable : StableF NoF := fun _ _ _ _ _ => trivial
/-! ### the steps, in the text's order -/
variable {T : Nat → Option Fact}
def wpToldL (P : Program) (md : Region.Mode) (ops : Array Oper) (mk : Bool) (R : Nat → World → World → Prop) (Sh : Nat → Value → Prop) (T : Nat → Option Fact) (S : World → Prop) (h0 : Nat) (Q : Act → Known → Prop) : Nat → List Oper → Act → Known → Prop
  | _, [], a, m => Q a m
  | i, o :: rest, a, m => stepT P md ops mk R Sh T S h0 i o (wpToldL P md ops mk R Sh T S h0 Q (i + 1) rest) a m
theorem wpTold_of_list {Q : Act → Known → Prop} : ∀ (l : List Oper) (i : Nat) (a : Act) (m : Known), (∀ j, j < l.length → ops[i + j]? = l[j]?) → wpToldL P md ops mk R Sh T S h0 Q i l a m → wpTold P md ops mk R Sh T S h0 Q (List.range' i l.length) a m
  | [], _, _, _, _, h => h
  | o :: l, i, a, m, hl, h => by
    have h0 : ops[i]? = some o := by simpa using hl 0 (by simp)
    rw [List.length_cons, List.range'_succ]
    simp only [wpTold, h0]
    exact stepT_mono (fun a' m' h' => wpTold_of_list l (i + 1) a' m' (fun j hj => by have := hl (j + 1) (by simp; omega); simpa [Nat.add_assoc, Nat.add_comm 1 j] using this) h') h
theorem filter_range' (l : List Oper) : ∀ (k n : Nat), n + k = l.length → ((List.range' n k).filterMap fun t => l.toArray[t]?) = l.drop n := by
  intro k
  induction k with
  | zero => intro n h; rw [show n = l.length by omega]; simp
  | succ k ih =>
    intro n h
    rw [List.range'_succ]
    have hn : n < l.length := by omega
    rw [List.filterMap_cons_some (b := l[n]) (by simp [hn]), ih (n + 1) (by omega)]
    exact (List.drop_eq_getElem_cons hn).symm
/-- The rule, in the text's order: the first n operations are the head. -/
theorem wp_region_toldL {id : Nat} {Q : Exit → Act → World → Prop} {a : Act} {w : World} {l : List Oper} (T : Nat → Option Fact) (S : World → Prop) (h0 n : Nat) (Sh : Nat → Value → Prop) (hSh : ∀ i, ∃ v, Sh i v) (hT : Stable T) (hLv : Lives S) (R : Nat → World → World → Prop) (hR : Turns mk R S h0 T) (hm : P.follows .mixedOrders = true) (hB : (decide (n ≤ l.length) && toldB .any l.toArray (List.range' 0 n) (List.range' n (l.length - n)) (Array.replicate l.toArray.size false)) = true)
    (hS : S { w with drawn := w.drawn + 1 }) (hh : h0 ≤ w.heap.size)
    (h : wpToldL P .any l.toArray mk R Sh T S h0 (fun a' m' => ∀ w', Holds mk S h0 T m' w' → wpList P l.toArray Q (l.drop n) a' w') 0 (l.take n) a Known.none) : (Code.region id l.toArray true).wp P Q a w := by
  simp only [Bool.and_eq_true, decide_eq_true_eq] at hB
  obtain ⟨hn, hB⟩ := hB
  refine wp_region_told T S h0 (List.range' 0 n) (List.range' n (l.length - n)) Sh hSh hT hLv R hR hm (by simp; omega) hB hS hh ?_
  have h1 := wpTold_of_list (ops := l.toArray) (l.take n) 0 a Known.none (fun j hj => by rw [List.length_take] at hj; rw [Nat.zero_add, List.getElem?_toArray, List.getElem?_take, if_pos (by omega)]) h
  rw [List.length_take, Nat.min_eq_left hn] at h1
  rw [filter_range' l (l.length - n) n (by omega)]
  exact h1
theorem wpTold_nil {Q : Act → Known → Prop} {i : Nat} {a : Act} {m : Known} (h : Q a m) : wpToldL P md ops mk R Sh T S h0 Q i [] a m := h
theorem wpTold_read {Q : Act → Known → Prop} {i : Nat} {a : Act} {m : Known} {o : Oper} {rest : List Oper} (v : Value) (hT : T i = none) (hw : Region.wanted o (yielded ops a.tmps) = true)
    (h : ∀ w, S w → (execOp a.eval o).run P w = .ok (.value v) w) (k : wpToldL P md ops mk R Sh T S h0 Q (i + 1) rest (a.put o.dst v) m) : wpToldL P md ops mk R Sh T S h0 Q i (o :: rest) a m := by
  simp only [wpToldL, stepT, hT]
  exact .inl ⟨v, .inl ⟨hw, fun w hS => by rw [h w hS]; exact ⟨rfl, rfl⟩⟩, k⟩
theorem wpTold_skip {Q : Act → Known → Prop} {i : Nat} {a : Act} {m : Known} {o : Oper} {rest : List Oper} (hT : T i = none) (hw : Region.wanted o (yielded ops a.tmps) = false)
    (k : wpToldL P md ops mk R Sh T S h0 Q (i + 1) rest (a.put o.dst undef) m) : wpToldL P md ops mk R Sh T S h0 Q i (o :: rest) a m := by
  simp only [wpToldL, stepT, hT]
  exact .inl ⟨undef, .inr ⟨hw, rfl⟩, k⟩
theorem wpTold_make {R : Nat → World → World → Prop} {Q : Act → Known → Prop} {i : Nat} {a : Act} {m : Known} {o : Oper} {rest : List Oper} (V : Option (Nat × Nat)) (b : Obj) (hT : T i = none) (hw : Region.wanted o (yielded ops a.tmps) = true)
    (h : ∀ w, S w → (execOp a.eval o).run P w = .ok (.value (shapeV V w.heap.size)) (w.alloc b)) (k : ∀ g, wpToldL P md ops true R Sh T S h0 Q (i + 1) rest (a.put o.dst (shapeV V g)) (m.make i g b)) : wpToldL P md ops true R Sh T S h0 Q i (o :: rest) a m := by
  simp only [wpToldL, stepT, hT]
  exact .inr ⟨trivial, V, b, ⟨hw, h⟩, k⟩
/-- What tells a fact, without a call. -/
theorem wpTold_tell {Q : Act → Known → Prop} {i : Nat} {a : Act} {m : Known} {o : Oper} {rest : List Oper} (Φ : Fact) (hT : T i = some Φ) (hw : Region.wanted o (yielded ops a.tmps) = true)
    (h : ∀ w, S w → h0 ≤ w.heap.size → Seen md ops T h0 i m w → ∃ v' w', (execOp a.eval o).run P w = .ok (.value v') w' ∧ (Sh i v' ∧ Φ v' w') ∧ R i w w')
    (k : ∀ v, Sh i v → wpToldL P md ops mk R Sh T S h0 Q (i + 1) rest (a.put o.dst v) (m.told i v)) : wpToldL P md ops mk R Sh T S h0 Q i (o :: rest) a m := by
  simp only [wpToldL, stepT, hT]
  exact ⟨⟨hw, fun w hS hh hs => by obtain ⟨v', w', e, h1, h2⟩ := h w hS hh hs; rw [e]; exact ⟨h1, h2⟩⟩, k⟩
/-- A call. -/
theorem wpTold_call {Q : Act → Known → Prop} {i : Nat} {a : Act} {m : Known} {o : Oper} {rest : List Oper} (Φ : Fact) (f : FuncId) (args : Array Value) (hT : T i = some Φ) (hw : Region.wanted o (yielded ops a.tmps) = true)
    (h : ∀ w, (execOp a.eval o).run P w = .ok (.enter f args) w) (hc : ∀ w, S w → h0 ≤ w.heap.size → Seen md ops T h0 i m w → Calls P f args w fun e w'' => ∃ u, e = .returned u ∧ (Sh i u ∧ Φ u w'') ∧ R i w w'')
    (k : ∀ v, Sh i v → wpToldL P md ops mk R Sh T S h0 Q (i + 1) rest (a.put o.dst v) (m.told i v)) : wpToldL P md ops mk R Sh T S h0 Q i (o :: rest) a m := by
  simp only [wpToldL, stepT, hT]
  exact ⟨⟨hw, fun w hS hh hs => by rw [h w]; exact hc w hS hh hs⟩, k⟩
end
end Go.Proofs.YticljmgcgjibpaaGreatDoor
