/-
  NARROWER THAN 'FOR EVERY INPUT', by the rows' own cells (each row's printed sentence says how): EvalValues: loops, laid · EvalFolds: loops, laid.
  DERIVED. THE GIVEN ROWS OF THIS SEAT. 2 by the template 'for every input the law returns true; each argument reads behind the call as it read before'; 0 by the template 'total and deterministic' (their statements: YticljmgcgjibpaaGreatDoorTotals.lean).
  GIVEN WITH THE SEED: the statements are not yours to turn. If you find one false, say at which input.
  Laid BY PROGRAM, IN A SANDBOX (cutbox-rows.mjs): the forced cells as the released guide's own fill.sh prints them over the translation 627c8ddd10f1853d… (all of the seat's roots in one cut). By AI agents, Wed Nov 11 2026. No macro, syntax, notation, axiom, sorry.
-/
import Derived.Test.YticljmgcgjibpaaGreatDoorChecked
import GoSem.Claim
import GoSem.ClaimJoined
import GoSem.ClaimMapViews
import Derived.JoinedTies
import Derived.KernelRfl
namespace Go.Proofs.YticljmgcgjibpaaGreatDoor
/- THE CELL 'sum', in the pinned program and in every row, IS THE sha256 OF THE DUMP (.gsa) THAT YticljmgcgjibpaaGreatDoorProg.lean LOADS. Nothing in Lean hashes anything: it is a label: what it is worth is what the hold of that sum in a sandbox is worth. -/
noncomputable def Tryz.pinned : Pinned := { name := "yticljmgcgjibpaagreatdoor", sum := "627c8ddd10f1853de575332aeb1dc73702080ab9a01299a4941b542470f18149", checked := Tryz.checked }
namespace Rows
def none {H : Type} : Left H := { results := [], args := [] }

/- WHAT THE LISTED PACKAGE-LEVEL VARIABLES READ AS WHEN THE CALL BEGINS. Each datum BY PROGRAM (the guide's laid-datum.mjs) off the statement by which the dump's own 'gosem.cut.vars' lays the variable. In a bare row this is a premise. The card (YticljmgcgjibpaaGreatDoorCards.lean) ties it to the program's text. -/
def laid_chancery_value_andTable {H : Type} : DataW H := .agg [.agg [.lit (.int .u8 0), .lit (.int .u8 0), .lit (.int .u8 0)], .agg [.lit (.int .u8 0), .lit (.int .u8 1), .lit (.int .u8 2)], .agg [.lit (.int .u8 0), .lit (.int .u8 2), .lit (.int .u8 2)]]
def laid_chancery_value_orTable {H : Type} : DataW H := .agg [.agg [.lit (.int .u8 0), .lit (.int .u8 1), .lit (.int .u8 2)], .agg [.lit (.int .u8 1), .lit (.int .u8 1), .lit (.int .u8 1)], .agg [.lit (.int .u8 2), .lit (.int .u8 1), .lit (.int .u8 2)]]
def laid_chancery_value_notTable {H : Type} : DataW H := .agg [.lit (.int .u8 1), .lit (.int .u8 0), .lit (.int .u8 2)]

/-- 'chancerylaw24.EvalValues': WHATEVER THE INPUT: true; the input reads as it did. -/
def evalValuesSpec : ChangeSpec := { name := "evalValues", fn := fun _ => fun
  | [d1, d2, d3] => { results := [.lit (.bool true)], args := [d1, d2, d3] }
  | _ => none }
def evalValuesRow : OpenClaim := { program := "yticljmgcgjibpaagreatdoor", sum := "627c8ddd10f1853de575332aeb1dc73702080ab9a01299a4941b542470f18149", func := "chancery/chancerylaw24.EvalValues", spec := "evalValues", inPlace := ["math/bits.Add64", "internal/bytealg.abigen_runtime_cmpstring"], unfollowed := true, recurses := true, named := ["math/bits.divideError", "math/bits.overflowError", "chancery/value.andTable", "chancery/value.orTable", "chancery/value.notTable"], loops := true, apart := false, laid := [("chancery/value.andTable", laid_chancery_value_andTable), ("chancery/value.orTable", laid_chancery_value_orTable), ("chancery/value.notTable", laid_chancery_value_notTable)] }
def EvalValuesSaid : Prop := evalValuesRow.holds Tryz.pinned (OpenSpec.ofChange evalValuesSpec)

/-- ITS FALSE NEIGHBOUR: 'it returns false'. Refute it at one input. -/
def evalValuesWrong : ChangeSpec := { name := "evalValues", fn := fun _ => fun
  | [d1, d2, d3] => { results := [.lit (.bool false)], args := [d1, d2, d3] }
  | _ => none }
def EvalValuesWrongFalsely : Prop := evalValuesRow.holds Tryz.pinned (OpenSpec.ofChange evalValuesWrong)

/-- 'chancerylaw24.EvalFolds': WHATEVER THE INPUT: true; the input reads as it did. -/
def evalFoldsSpec : ChangeSpec := { name := "evalFolds", fn := fun _ => fun
  | [d1, d2, d3] => { results := [.lit (.bool true)], args := [d1, d2, d3] }
  | _ => none }
def evalFoldsRow : OpenClaim := { program := "yticljmgcgjibpaagreatdoor", sum := "627c8ddd10f1853de575332aeb1dc73702080ab9a01299a4941b542470f18149", func := "chancery/chancerylaw24.EvalFolds", spec := "evalFolds", inPlace := ["math/bits.Add64", "internal/bytealg.abigen_runtime_cmpstring"], unfollowed := true, recurses := true, named := ["math/bits.divideError", "math/bits.overflowError", "chancery/value.andTable", "chancery/value.orTable", "chancery/value.notTable"], loops := true, apart := false, laid := [("chancery/value.andTable", laid_chancery_value_andTable), ("chancery/value.orTable", laid_chancery_value_orTable), ("chancery/value.notTable", laid_chancery_value_notTable)] }
def EvalFoldsSaid : Prop := evalFoldsRow.holds Tryz.pinned (OpenSpec.ofChange evalFoldsSpec)

/-- ITS FALSE NEIGHBOUR: 'it returns false'. Refute it at one input. -/
def evalFoldsWrong : ChangeSpec := { name := "evalFolds", fn := fun _ => fun
  | [d1, d2, d3] => { results := [.lit (.bool false)], args := [d1, d2, d3] }
  | _ => none }
def EvalFoldsWrongFalsely : Prop := evalFoldsRow.holds Tryz.pinned (OpenSpec.ofChange evalFoldsWrong)

/- THE SECOND FORM. 'bulk': how many values and letters a reading holds, each counted each time it is reached (what is shared counts as often as it is met; a slice's spare places count too). A statement '..UptoSaid' is the law's where the arguments, and the package variables that the reading takes, are together of bulk at most 1048576: NARROWER than '..Said'. Prove '..Said' where nothing that the law and all that it calls make is longer than what came in: it says more and counts as full. Else prove '..UptoSaid'. A law counts once. -/
mutual
def uptoBulk {H : Type} : DataW H → Nat
  | .lit (.string bytes) => bytes.length + 1
  | .lit _ => 1
  | .nil => 1
  | .ptr d => uptoBulk d + 1
  | .slice elems spare => uptoBulkAll elems + uptoBulkAll spare + 1
  | .agg parts => uptoBulkAll parts + 1
  | .iface _ d => uptoBulk d + 1
  | .map entries => uptoBulkEntries entries + 1
  | .held _ => 1
def uptoBulkAll {H : Type} : List (DataW H) → Nat
  | [] => 0
  | d :: r => uptoBulk d + uptoBulkAll r
def uptoBulkEntries {H : Type} : List (Lit × DataW H) → Nat
  | [] => 0
  | x :: r => uptoBulkEntry x + uptoBulkEntries r
def uptoBulkEntry {H : Type} : Lit × DataW H → Nat
  | (.string bytes, d) => bytes.length + uptoBulk d + 1
  | (_, d) => uptoBulk d + 1
 end
def uptoSmall : (H : Type) → List (DataW H) → Bool := fun _ ds => decide (uptoBulkAll ds ≤ 1048576)
def OpenSpec.upto (s : _root_.Go.ChangeSpec) : _root_.Go.OpenSpec := { _root_.Go.OpenSpec.ofChange s with cond := some uptoSmall }

/-- 'chancerylaw24.EvalValues', WHERE WHAT IT READS IS OF BULK AT MOST 1048576: true; the input reads as it did. -/
def evalValuesUptoRow : OpenClaim := { program := "yticljmgcgjibpaagreatdoor", sum := "627c8ddd10f1853de575332aeb1dc73702080ab9a01299a4941b542470f18149", func := "chancery/chancerylaw24.EvalValues", spec := "evalValues", inPlace := ["math/bits.Add64", "internal/bytealg.abigen_runtime_cmpstring"], unfollowed := true, recurses := true, named := ["math/bits.divideError", "math/bits.overflowError", "chancery/value.andTable", "chancery/value.orTable", "chancery/value.notTable"], loops := true, apart := false, laid := [("chancery/value.andTable", laid_chancery_value_andTable), ("chancery/value.orTable", laid_chancery_value_orTable), ("chancery/value.notTable", laid_chancery_value_notTable)], narrowed := true }
def EvalValuesUptoSaid : Prop := evalValuesUptoRow.holds Tryz.pinned (OpenSpec.upto evalValuesSpec)

/-- 'chancerylaw24.EvalFolds', WHERE WHAT IT READS IS OF BULK AT MOST 1048576: true; the input reads as it did. -/
def evalFoldsUptoRow : OpenClaim := { program := "yticljmgcgjibpaagreatdoor", sum := "627c8ddd10f1853de575332aeb1dc73702080ab9a01299a4941b542470f18149", func := "chancery/chancerylaw24.EvalFolds", spec := "evalFolds", inPlace := ["math/bits.Add64", "internal/bytealg.abigen_runtime_cmpstring"], unfollowed := true, recurses := true, named := ["math/bits.divideError", "math/bits.overflowError", "chancery/value.andTable", "chancery/value.orTable", "chancery/value.notTable"], loops := true, apart := false, laid := [("chancery/value.andTable", laid_chancery_value_andTable), ("chancery/value.orTable", laid_chancery_value_orTable), ("chancery/value.notTable", laid_chancery_value_notTable)], narrowed := true }
def EvalFoldsUptoSaid : Prop := evalFoldsUptoRow.holds Tryz.pinned (OpenSpec.upto evalFoldsSpec)

end Rows
end Go.Proofs.YticljmgcgjibpaaGreatDoor
