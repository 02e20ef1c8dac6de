/-
  DERIVED. GIVEN WITH THE SEED: THE CARDS: each row of YticljmgcgjibpaaDoorRows.lean that lists a variable, with what it lists TIED to the program's text (the seventh form; the later family's looks); each row that meets fmt, with fmt's text TOLD by the authors' own Lean function (tested against real Go, not proved from fmt's source: count such statements apart). THE CARD IS WHAT COUNTS. Prove the row's statement (the work); the ties are given (YticljmgcgjibpaaDoorTie.lean); close each card by the builder's one call (the guide's Derived/Test/ToyasCard.lean, 'card_holds'). Laid BY PROGRAM, IN A SANDBOX (cutbox-door.mjs). By AI agents, Wed Nov 11 2026. No macro, syntax, notation, axiom, sorry.
-/
import Derived.Test.YticljmgcgjibpaaDoorRows
import GoSem.ClaimSeven
namespace Go.Proofs.YticljmgcgjibpaaDoor
namespace Rows

/-- THE TIED CARD OF 'chancerylaw24.EvalNulls'. -/
def evalNullsCard : Claim7 := { stood := { row := evalNullsRow, standIns := [], harness := (true, "16db2f0bf8bde44adc1e414e63ebfa9fc4a340b8886c921c2b66fc6a7dc4356d"), looks := false }, kinds := [], alts := [], laidByText := true, laidKinds := [.data, .data, .data], laidTests := true, laidLooks := .later }
def EvalNullsCardSaid : Prop := Claim7.holds Tryd.pinned (.plain (OpenSpec.ofChange evalNullsSpec)) evalNullsCard

/-- THE TIED CARD OF 'chancerylaw24.EvalParts'. -/
def evalPartsCard : Claim7 := { stood := { row := evalPartsRow, standIns := [], harness := (true, "16db2f0bf8bde44adc1e414e63ebfa9fc4a340b8886c921c2b66fc6a7dc4356d"), looks := false }, kinds := [], alts := [], laidByText := true, laidKinds := [.data, .data, .data], laidTests := true, laidLooks := .later }
def EvalPartsCardSaid : Prop := Claim7.holds Tryd.pinned (.plain (OpenSpec.ofChange evalPartsSpec)) evalPartsCard

/-- THE SECOND FORM's CARD OF 'chancerylaw24.EvalNulls'. -/
def evalNullsUptoCard : Claim7 := { stood := { row := evalNullsUptoRow, standIns := [], harness := (true, "16db2f0bf8bde44adc1e414e63ebfa9fc4a340b8886c921c2b66fc6a7dc4356d"), looks := false }, kinds := [], alts := [], laidByText := true, laidKinds := [.data, .data, .data], laidTests := true, laidLooks := .later }
def EvalNullsUptoCardSaid : Prop := Claim7.holds Tryd.pinned (.plain (OpenSpec.upto evalNullsSpec)) evalNullsUptoCard

/-- THE SECOND FORM's CARD OF 'chancerylaw24.EvalParts'. -/
def evalPartsUptoCard : Claim7 := { stood := { row := evalPartsUptoRow, standIns := [], harness := (true, "16db2f0bf8bde44adc1e414e63ebfa9fc4a340b8886c921c2b66fc6a7dc4356d"), looks := false }, kinds := [], alts := [], laidByText := true, laidKinds := [.data, .data, .data], laidTests := true, laidLooks := .later }
def EvalPartsUptoCardSaid : Prop := Claim7.holds Tryd.pinned (.plain (OpenSpec.upto evalPartsSpec)) evalPartsUptoCard
end Rows
end Go.Proofs.YticljmgcgjibpaaDoor
