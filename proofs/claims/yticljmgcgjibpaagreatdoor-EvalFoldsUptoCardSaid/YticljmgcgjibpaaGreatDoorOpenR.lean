/-
  How rows of rows are opened, under a bound on their bulk; the wrap of a row that lists variables and whose specification has a condition. Conditions: what is read is of bulk at most U (the statement says so).
-/
import Derived.Test.YticljmgcgjibpaaGreatDoorOpenE
import Derived.Test.YticljmgcgjibpaaGreatDoorBulk
import Derived.Test.YticljmgcgjibpaaGreatDoorLaidWrap
import Derived.Test.YticljmgcgjibpaaGreatDoorRowsE
import Derived.LaidLaws
namespace Go.Proofs.YticljmgcgjibpaaGreatDoor
open Go.ChangeShapes Go.WideShapes Go.ChangeAt Go.RowKit Go.Joins Go.Deep

theorem handed_laid_cond {H : Type} {enc : TypeId × Value → H} {a : Assume} {C : Checked} {os : Os} {f : FuncId} {fn : Func} {s : OpenSpec} {k : (H : Type) → List (DataW H) → Bool} (hk : s.cond = some k) {F : Stop.Interp} {conds : List PathCond} {apart fresh handsOn again : Bool} {L : List (String × DataW Unit)}
    (own : ownKnob C.prog.godebug = none) (started : os.Started) (noInit : C.prog.inits.idxOf? f = none) (hfn : C.prog.funcs[f]? = some fn)
    (witness : ∃ (w : World) (tape : Tape) (i : Input), w.os = os ∧ (w.forCall tape i).Shaped C.prog ∧ i.vars = [] ∧ Input.okWide C.prog (w.forCall tape i) .any w.heap.size f i ∧
      ((s.pre enc C.prog fn conds apart (w.forCall tape i).memory i.args ∧ laidMetH C.prog L (w.forCall tape i).memory) ∧ sizedMet enc C.prog fn s apart (w.forCall tape i).memory i.args) ∧ a.holds C.prog (lone (Frame.enter C.prog f i.args .normal) [] (w.forCall tape i)))
    (contract : ∀ (W : World) (base : Nat) (args : Array Value) (ds gs : List (DataW H)) (before : List MemPlace),
      (∀ (j : Nat) t v, fn.params[j]? = some t → args[j]? = some v → Value.okWide C.prog W .any base t v) →
      DataW.Whole enc C.prog fn.params.toList s.vars apart W args.toList ds gs before →
      conds.all (PathCond.test C.prog ⟨fn.params.toList, ds, s.bare.plain.varTypes C.prog, gs⟩) = true → k H (ds ++ gs) = true →
      (DataW.weightsEach C.prog (fn.params.toList ++ s.bare.plain.varTypes C.prog) (ds ++ gs)).all (· ≤ reachBytes) = true →
      W.ShapedOpen C.prog → laidMetH C.prog L W →
      Calls C.prog f args W fun e W' => ∃ v, e = .returned v ∧ (s.at F).post enc C.prog fn apart fresh handsOn again W args v W') :
    ReturnsInHanded a C os f .any (fun w args => (s.pre enc C.prog fn conds apart w args ∧ laidMetH C.prog L w) ∧ sizedMet enc C.prog fn s apart w args) ((s.at F).post enc C.prog fn apart fresh handsOn again) := by
  refine returnsInHanded_of_calls own started noInit witness ?_
  intro w tape i _ hsh _ hok hpre _
  obtain ⟨_, _, _, fn', hfn', _, _, _, _, hval⟩ := hok
  have e : fn' = fn := Option.some.inj (hfn'.symm.trans hfn)
  subst e
  obtain ⟨⟨hp, hx⟩, hz⟩ := hpre
  obtain ⟨ds, gs, before, hw, hc, hkk⟩ := (OpenSpec.pre_some hk conds apart _ _).1 hp
  have hw' := DataW.Whole.of_heap (w' := w.forCall tape i) (by rfl) hw
  refine (contract (w.forCall tape i) w.heap.size i.args ds gs before hval hw' hc hkk (hz.weights hw) hsh (laidMetH.of_heap (by rfl) hx)).mono fun e W' ⟨v, he, hp⟩ => ?_
  subst he
  exact ChangeSpec.post_blind hp
theorem witness_laid_cond {H : Type} {enc : TypeId × Value → H} {C : Checked} {os : Os} {f : FuncId} {fn : Func} {s : OpenSpec} {k : (H : Type) → List (DataW H) → Bool} (hk : s.cond = some k) {conds : List PathCond} {apart : Bool} {L : List (String × DataW Unit)} (modest : Bool) (w0 : World) (args : Array Value) (fuel : Nat) (hos : w0.os = os)
    (hsh : (w0.forCall (fun _ _ => 0) ⟨#[], args, []⟩).Shaped C.prog)
    (hok : Input.okWideB C.prog (w0.forCall (fun _ _ => 0) ⟨#[], args, []⟩) f ⟨#[], args, []⟩ = true)
    {x : List (DataW H) × List (DataW H) × List MemPlace} (hx : DataW.whole enc C.prog (w0.forCall (fun _ _ => 0) ⟨#[], args, []⟩).memory fn.params.toList s.vars apart args.toList fuel = some x)
    (hconds : conds.all (PathCond.test C.prog ⟨fn.params.toList, x.1, s.bare.plain.varTypes C.prog, x.2.1⟩) = true) (hkk : k H (x.1 ++ x.2.1) = true)
    (hsz : s.bare.sizedB enc C.prog fn apart (w0.forCall (fun _ _ => 0) ⟨#[], args, []⟩).memory args fuel = true)
    (hl : laidMetH C.prog L (w0.forCall (fun _ _ => 0) ⟨#[], args, []⟩).memory) :
    ∃ (w : World) (tape : Tape) (i : Input), w.os = os ∧ (w.forCall tape i).Shaped C.prog ∧ i.vars = [] ∧ Input.okWide C.prog (w.forCall tape i) .any w.heap.size f i ∧
      ((s.pre enc C.prog fn conds apart (w.forCall tape i).memory i.args ∧ laidMetH C.prog L (w.forCall tape i).memory) ∧ sizedMet enc C.prog fn s apart (w.forCall tape i).memory i.args) ∧ ({ modest := modest } : Assume).holds C.prog (lone (Frame.enter C.prog f i.args .normal) [] (w.forCall tape i)) :=
  ⟨w0, fun _ _ => 0, ⟨#[], args, []⟩, hos, hsh, (Input.okWide_of_okWideB (base := 0) hok).1, (Input.okWide_of_okWideB hok).2, ⟨⟨(OpenSpec.pre_some hk conds apart _ _).2 ⟨x.1, x.2.1, x.2.2, DataW.Whole_of_whole hx, hconds, hkk⟩, hl⟩, sizedMet_of_sizedB hsz⟩, by
    simp only [Assume.holds]
    exact ⟨by simp, by simp, fun _ => Modest.zero, by simp, by simp⟩⟩
section
variable {H : Type} {enc : TypeId × Value → H} {W : World}
set_option maxRecDepth 100000 in
theorem open_rws {a : Option Addr} {len cap : Nat} {d : DataW H} {p : List MemPlace} {U : Nat} (h : DataW.Trod enc Tryz.prog W 0 (fun _ => true) true 43 (.slice a len cap) d p) (hU : Rows.uptoBulk d ≤ U) (hU2 : U ≤ 1048576) :
    ∃ rs : List (List Cell.Val), Rws W (· < W.heap.size) a len rs ∧ len ≤ cap ∧ cap ≤ maxLen ∧ len ≤ U ∧ ∀ r ∈ rs, r.length ≤ U := by
  obtain ⟨fuel, hf⟩ := h
  rcases open_slice Tryz.underlying43 hf with ⟨hcs, hx⟩ | ⟨a', len', cap', m, n, D, Pl, hcs, _, hl, hm, hmm, hx, hi⟩
  · simp [Value.cells] at hcs
    obtain ⟨rfl, rfl, rfl⟩ := hcs
    exact ⟨[], ⟨rfl, by omega, fun h => absurd h (by omega)⟩, Nat.le_refl _, Nat.zero_le _, Nat.zero_le _, by simp⟩
  · simp [Value.cells] at hcs
    obtain ⟨rfl, rfl, rfl⟩ := hcs
    simp only [if_true] at hmm
    subst hmm
    simp only [Prod.mk.injEq] at hx
    rw [hx.1] at hU
    simp only [Rows.uptoBulk] at hU
    have hll := bulks.length_le ((List.range len).map D)
    simp only [List.length_map, List.length_range] at hll
    have hC : Tryz.prog.cellsOf 30 = 1 := by kernel_rfl
    rw [hC] at hi
    have key : ∀ i, i < len → ∃ x : Ir, W.cell? (a'.add i) = some x.v ∧ x.r.length ≤ x.c ∧ x.c ≤ 9223372036854775807 ∧ Rvp W (· < W.heap.size) x.A x.r.length x.r ∧ x.r.length ≤ U := by
      intro i him
      obtain ⟨cs', hc, ht'⟩ := hi i (by omega)
      obtain ⟨_, hcl, hat⟩ := World.cells?_some hc
      match cs', hcl with
      | [c0], _ =>
        obtain ⟨A1, l1, c1, e1⟩ := slice_form Tryz.underlying30 ht'
        simp only [List.cons.injEq, and_true] at e1
        subst e1
        obtain ⟨rv, hrv, h1, h2, h3⟩ := open_vals (H := H) (enc := enc) (a := A1) (len := l1) (cap := c1) ⟨_, ht'⟩
        have hrl := hrv.len
        subst hrl
        have hbi := bulks.part_le (d := D i) (l := (List.range len).map D) (List.mem_map.2 ⟨i, List.mem_range.2 him, rfl⟩)
        have hcap : c1 ≤ Rows.uptoBulk (D i) := by
          rcases h3 with ⟨_, _, h0⟩ | ⟨E, E', hE, hlen⟩
          · omega
          · rw [hE]
            simp only [Rows.uptoBulk]
            have q1 := bulks.length_le E
            have q2 := bulks.length_le E'
            omega
        have hc0 := hat 0 (by omega)
        rw [add_add, Nat.mul_one, Nat.add_zero] at hc0
        refine ⟨⟨A1, c1, rv⟩, hc0, h1, by unfold maxLen at h2; omega, ⟨rfl, hrv.2, fun h0 => ?_⟩, by show rv.length ≤ U; omega⟩
        obtain ⟨b, off, e, hb, hcell⟩ := hrv.1.2 h0
        exact ⟨b, off, e, hb, hcell⟩
    haveI : Inhabited Ir := ⟨⟨none, 0, []⟩⟩
    obtain ⟨V, hV⟩ := choose_lt (α := Ir) key
    refine ⟨(List.range len).map fun i => (V i).r, ⟨by simp, by omega, fun h0 => ?_⟩, hl, hm, by omega, fun r hr => ?_⟩
    · have hcell := (hV 0 h0).1
      obtain ⟨b, off, spot⟩ := a'
      have hspot : spot = none := by simpa [Addr.add] using World.cell?_spot hcell
      subst hspot
      refine ⟨b, off, rfl, World.block_lt_of_cell? W _ hcell, fun i r hi => ?_⟩
      rw [List.getElem?_map] at hi
      obtain ⟨i', hi', e⟩ := Option.map_eq_some_iff.1 hi
      have hil : i < len := by
        have := (List.getElem?_eq_some_iff.1 hi').1
        simpa using this
      rw [List.getElem?_range hil] at hi'
      injection hi' with hi'
      subst hi' e
      obtain ⟨k1, k2, k3, k4, _⟩ := hV i hil
      rw [addr_add] at k1
      exact ⟨(V i).A, (V i).c, k1, k2, k3, k4⟩
    · simp only [List.mem_map, List.mem_range] at hr
      obtain ⟨i, hi', rfl⟩ := hr
      exact (hV i hi').2.2.2.2
end
end Go.Proofs.YticljmgcgjibpaaGreatDoor
