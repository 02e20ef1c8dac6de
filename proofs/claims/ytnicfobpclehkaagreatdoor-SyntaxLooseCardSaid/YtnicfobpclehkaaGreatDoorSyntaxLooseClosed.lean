/-
  The closed facts of the row syntaxLoose, one by one. Conditions: none. (printed by closed.py)
-/
import Derived.Test.YtnicfobpclehkaaGreatDoorRows
import Derived.Test.YtnicfobpclehkaaGreatDoorCards
import Derived.JoinedOf
namespace Go.Proofs.YtnicfobpclehkaaGreatDoor.syntaxLoose
open Go.ChangeShapes Go.WideShapes
set_option maxRecDepth 100000

theorem band {a b : Bool} (h : a = true) (k : b = true) : (a && b) = true := by rw [h, k]; rfl
theorem c0 : Rows.syntaxLooseRow.wf (OpenSpec.ofChange Rows.syntaxLooseSpec) = true := by kernel_rfl
theorem c1 : laidOutB Tryz.pinned.checked.prog = true := by kernel_rfl
theorem c2 : mapsRowed Tryz.pinned.checked.prog = true := by kernel_rfl
theorem c3 : Tryz.f6.params.all (Tryz.pinned.checked.prog.readableRec ·) = true := by kernel_rfl
theorem c4 : namedTie Tryz.pinned.checked.prog Rows.syntaxLooseRow.named Rows.syntaxLooseSpec.vars = true := by kernel_rfl
theorem c5 : (Rows.syntaxLooseRow.stops == []) = true := by kernel_rfl
theorem c6 : (Tryz.pinned.checked.prog.stops == []) = true := by kernel_rfl
theorem c7 : (Rows.syntaxLooseRow.knobs == []) = true := by kernel_rfl
theorem c8 : (Tryz.pinned.checked.prog.stopKnobs == []) = true := by kernel_rfl
theorem c9 : (Rows.syntaxLooseRow.inPlace == Tryz.pinned.checked.prog.inPlace 6) = true := by kernel_rfl
theorem c10 : (Rows.syntaxLooseRow.unfollowed == Tryz.pinned.checked.prog.unfollowed 6) = true := by kernel_rfl
theorem c11 : (Rows.syntaxLooseRow.recurses == Tryz.pinned.checked.prog.recurses 6) = true := by kernel_rfl
theorem c12 : (Rows.syntaxLooseRow.named == Tryz.pinned.checked.prog.varsNamed 6) = true := by kernel_rfl
theorem c13 : (Rows.syntaxLooseRow.maps == (Tryz.f6.params.toList ++ Rows.syntaxLooseSpec.plain.varTypes Tryz.pinned.checked.prog).any (Tryz.pinned.checked.prog.mapsRec ·)) = true := by kernel_rfl
theorem c14 : (Rows.syntaxLooseRow.ifaces == (Tryz.f6.params.toList ++ Rows.syntaxLooseSpec.plain.varTypes Tryz.pinned.checked.prog).any (Tryz.pinned.checked.prog.ifacesRec ·)) = true := by kernel_rfl
theorem c15 : (Rows.syntaxLooseRow.mapsOut == Tryz.pinned.checked.prog.mapsAmong Tryz.f6.resultTypes.toList) = true := by kernel_rfl
theorem c16 : (Rows.syntaxLooseRow.loops == (Tryz.f6.params.toList ++ Rows.syntaxLooseSpec.plain.varTypes Tryz.pinned.checked.prog).any (Tryz.pinned.checked.prog.loopsFrom ·)) = true := by kernel_rfl
theorem c17 : (Rows.syntaxLooseRow.wideKeys == (Tryz.f6.params.toList ++ Rows.syntaxLooseSpec.plain.varTypes Tryz.pinned.checked.prog ++ Tryz.f6.resultTypes.toList).any (Tryz.pinned.checked.prog.wideKeysFrom ·)) = true := by kernel_rfl
theorem c18 : Rows.syntaxLooseSpec.vars.all (Tryz.pinned.checked.prog.varReadable ·) = true := by kernel_rfl
theorem c19 : Tryz.f6.resultTypes.all (fun t => Tryz.pinned.checked.prog.readableRec t && decide (t < Tryz.pinned.checked.prog.types.size)) = true := by kernel_rfl
theorem c20 : (Rows.syntaxLooseRow.ifacesOut == Tryz.f6.resultTypes.toList.any (Tryz.pinned.checked.prog.ifacesRec ·)) = true := by kernel_rfl
theorem c21 : (Rows.syntaxLooseRow.loopsOut == Tryz.f6.resultTypes.toList.any (Tryz.pinned.checked.prog.loopsFrom ·)) = true := by kernel_rfl
theorem c22 : (Rows.syntaxLooseRow.plainKeys == Tryz.pinned.checked.prog.plainKeys) = true := by kernel_rfl
theorem c23 : Rows.syntaxLooseRow.shortTexts.isNone = true := by kernel_rfl
theorem c24 : Tryz.pinned.checked.prog.stopsHeard = true := by kernel_rfl
theorem c25 : Tryz.pinned.checked.prog.mayEnter = true := by kernel_rfl
theorem c26 : (Rows.syntaxLooseRow.lifted == Tryz.pinned.checked.prog.liftsFinal) = true := by kernel_rfl
theorem c27 : (Tryz.pinned.checked.prog.make == some Rows.syntaxLooseRow.make) = true := by kernel_rfl
theorem c28 : (Rows.syntaxLooseRow.kinds == (if Rows.syntaxLooseRow.domain.isEmpty then [] else Tryz.f6.params.toList.map fun t => match Tryz.pinned.checked.prog.underlying t with | some (.int k) => some k | _ => none)) = true := by kernel_rfl
theorem c29 : (Rows.syntaxLooseRow.pinned == Rows.syntaxLooseRow.pinnedBy) = true := by kernel_rfl
theorem c30 : (Rows.syntaxLooseRow.veiled == (Tryz.f6.params.toList ++ Rows.syntaxLooseSpec.plain.varTypes Tryz.pinned.checked.prog ++ Tryz.f6.resultTypes.toList).any (Tryz.pinned.checked.prog.veiledRec ·)) = true := by kernel_rfl
theorem c31 : Rows.syntaxLooseRow.veiledFits Tryz.pinned.checked.prog Tryz.f6.params.toList (Tryz.f6.params.toList ++ Rows.syntaxLooseSpec.plain.varTypes Tryz.pinned.checked.prog ++ Tryz.f6.resultTypes.toList) = true := by kernel_rfl
theorem closed : joinedFacts Tryz.pinned.checked.prog 6 Tryz.f6 Rows.syntaxLooseSpec Rows.syntaxLooseRow = true := by
  unfold joinedFacts
  exact band (band (band (band (band (band (band (band (band (band (band (band (band (band (band (band (band (band (band (band (band (band (band (band (band (band (band (band (band (band (band c0 c1) c2) c3) c4) c5) c6) c7) c8) c9) c10) c11) c12) c13) c14) c15) c16) c17) c18) c19) c20) c21) c22) c23) c24) c25) c26) c27) c28) c29) c30) c31
theorem hfn : Tryz.pinned.checked.prog.funcNamed Rows.syntaxLooseRow.func = some 6 := by kernel_rfl
end Go.Proofs.YtnicfobpclehkaaGreatDoor.syntaxLoose
