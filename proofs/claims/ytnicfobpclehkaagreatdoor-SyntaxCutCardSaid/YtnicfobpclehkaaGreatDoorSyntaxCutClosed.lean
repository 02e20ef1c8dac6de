/-
  The closed facts of the row syntaxCut, one by one. Conditions: none. (printed by closed.py)
-/
import Derived.Test.YtnicfobpclehkaaGreatDoorRows
import Derived.Test.YtnicfobpclehkaaGreatDoorCards
import Derived.JoinedOf
namespace Go.Proofs.YtnicfobpclehkaaGreatDoor.syntaxCut
open Go.ChangeShapes Go.WideShapes
set_option maxRecDepth 100000

theorem band {a b : Bool} (h : a = true) (k : b = true) : (a && b) = true := by rw [h, k]; rfl
theorem c0 : Rows.syntaxCutRow.wf (OpenSpec.ofChange Rows.syntaxCutSpec) = true := by kernel_rfl
theorem c1 : laidOutB Tryz.pinned.checked.prog = true := by kernel_rfl
theorem c2 : mapsRowed Tryz.pinned.checked.prog = true := by kernel_rfl
theorem c3 : Tryz.f7.params.all (Tryz.pinned.checked.prog.readableRec ·) = true := by kernel_rfl
theorem c4 : namedTie Tryz.pinned.checked.prog Rows.syntaxCutRow.named Rows.syntaxCutSpec.vars = true := by kernel_rfl
theorem c5 : (Rows.syntaxCutRow.stops == []) = true := by kernel_rfl
theorem c6 : (Tryz.pinned.checked.prog.stops == []) = true := by kernel_rfl
theorem c7 : (Rows.syntaxCutRow.knobs == []) = true := by kernel_rfl
theorem c8 : (Tryz.pinned.checked.prog.stopKnobs == []) = true := by kernel_rfl
theorem c9 : (Rows.syntaxCutRow.inPlace == Tryz.pinned.checked.prog.inPlace 7) = true := by kernel_rfl
theorem c10 : (Rows.syntaxCutRow.unfollowed == Tryz.pinned.checked.prog.unfollowed 7) = true := by kernel_rfl
theorem c11 : (Rows.syntaxCutRow.recurses == Tryz.pinned.checked.prog.recurses 7) = true := by kernel_rfl
theorem c12 : (Rows.syntaxCutRow.named == Tryz.pinned.checked.prog.varsNamed 7) = true := by kernel_rfl
theorem c13 : (Rows.syntaxCutRow.maps == (Tryz.f7.params.toList ++ Rows.syntaxCutSpec.plain.varTypes Tryz.pinned.checked.prog).any (Tryz.pinned.checked.prog.mapsRec ·)) = true := by kernel_rfl
theorem c14 : (Rows.syntaxCutRow.ifaces == (Tryz.f7.params.toList ++ Rows.syntaxCutSpec.plain.varTypes Tryz.pinned.checked.prog).any (Tryz.pinned.checked.prog.ifacesRec ·)) = true := by kernel_rfl
theorem c15 : (Rows.syntaxCutRow.mapsOut == Tryz.pinned.checked.prog.mapsAmong Tryz.f7.resultTypes.toList) = true := by kernel_rfl
theorem c16 : (Rows.syntaxCutRow.loops == (Tryz.f7.params.toList ++ Rows.syntaxCutSpec.plain.varTypes Tryz.pinned.checked.prog).any (Tryz.pinned.checked.prog.loopsFrom ·)) = true := by kernel_rfl
theorem c17 : (Rows.syntaxCutRow.wideKeys == (Tryz.f7.params.toList ++ Rows.syntaxCutSpec.plain.varTypes Tryz.pinned.checked.prog ++ Tryz.f7.resultTypes.toList).any (Tryz.pinned.checked.prog.wideKeysFrom ·)) = true := by kernel_rfl
theorem c18 : Rows.syntaxCutSpec.vars.all (Tryz.pinned.checked.prog.varReadable ·) = true := by kernel_rfl
theorem c19 : Tryz.f7.resultTypes.all (fun t => Tryz.pinned.checked.prog.readableRec t && decide (t < Tryz.pinned.checked.prog.types.size)) = true := by kernel_rfl
theorem c20 : (Rows.syntaxCutRow.ifacesOut == Tryz.f7.resultTypes.toList.any (Tryz.pinned.checked.prog.ifacesRec ·)) = true := by kernel_rfl
theorem c21 : (Rows.syntaxCutRow.loopsOut == Tryz.f7.resultTypes.toList.any (Tryz.pinned.checked.prog.loopsFrom ·)) = true := by kernel_rfl
theorem c22 : (Rows.syntaxCutRow.plainKeys == Tryz.pinned.checked.prog.plainKeys) = true := by kernel_rfl
theorem c23 : Rows.syntaxCutRow.shortTexts.isNone = true := by kernel_rfl
theorem c24 : Tryz.pinned.checked.prog.stopsHeard = true := by kernel_rfl
theorem c25 : Tryz.pinned.checked.prog.mayEnter = true := by kernel_rfl
theorem c26 : (Rows.syntaxCutRow.lifted == Tryz.pinned.checked.prog.liftsFinal) = true := by kernel_rfl
theorem c27 : (Tryz.pinned.checked.prog.make == some Rows.syntaxCutRow.make) = true := by kernel_rfl
theorem c28 : (Rows.syntaxCutRow.kinds == (if Rows.syntaxCutRow.domain.isEmpty then [] else Tryz.f7.params.toList.map fun t => match Tryz.pinned.checked.prog.underlying t with | some (.int k) => some k | _ => none)) = true := by kernel_rfl
theorem c29 : (Rows.syntaxCutRow.pinned == Rows.syntaxCutRow.pinnedBy) = true := by kernel_rfl
theorem c30 : (Rows.syntaxCutRow.veiled == (Tryz.f7.params.toList ++ Rows.syntaxCutSpec.plain.varTypes Tryz.pinned.checked.prog ++ Tryz.f7.resultTypes.toList).any (Tryz.pinned.checked.prog.veiledRec ·)) = true := by kernel_rfl
theorem c31 : Rows.syntaxCutRow.veiledFits Tryz.pinned.checked.prog Tryz.f7.params.toList (Tryz.f7.params.toList ++ Rows.syntaxCutSpec.plain.varTypes Tryz.pinned.checked.prog ++ Tryz.f7.resultTypes.toList) = true := by kernel_rfl
theorem closed : joinedFacts Tryz.pinned.checked.prog 7 Tryz.f7 Rows.syntaxCutSpec Rows.syntaxCutRow = true := by
  unfold joinedFacts
  exact band (band (band (band (band (band (band (band (band (band (band (band (band (band (band (band (band (band (band (band (band (band (band (band (band (band (band (band (band (band (band c0 c1) c2) c3) c4) c5) c6) c7) c8) c9) c10) c11) c12) c13) c14) c15) c16) c17) c18) c19) c20) c21) c22) c23) c24) c25) c26) c27) c28) c29) c30) c31
theorem hfn : Tryz.pinned.checked.prog.funcNamed Rows.syntaxCutRow.func = some 7 := by kernel_rfl
end Go.Proofs.YtnicfobpclehkaaGreatDoor.syntaxCut
