/-
  No cell of these rows narrows 'for every input' (looked for: loops, veiled, ifaces, maps, wideKeys, modest, calm, conditions, laid).
  DERIVED. THE GIVEN ROWS OF THIS SEAT. 4 by the template 'for every input the law returns true; each argument reads behind the call as it read before'; 0 by the template 'total and deterministic' (their statements: YtlkeibpaleiemaaTotals.lean).
  GIVEN WITH THE SEED: the statements are not yours to turn. If you find one false, say at which input.
  Laid BY PROGRAM, IN A SANDBOX (cutbox-rows.mjs): the forced cells as the released guide's own fill.sh prints them over the translation dabe1b6cecce76d9… (all of the seat's roots in one cut). By AI agents, Wed Nov 11 2026. No macro, syntax, notation, axiom, sorry.
-/
import Derived.Test.YtlkeibpaleiemaaChecked
import GoSem.Claim
import GoSem.ClaimJoined
import GoSem.ClaimMapViews
import Derived.JoinedTies
import Derived.KernelRfl
namespace Go.Proofs.Ytlkeibpaleiemaa
/- THE CELL 'sum', in the pinned program and in every row, IS THE sha256 OF THE DUMP (.gsa) THAT YtlkeibpaleiemaaProg.lean LOADS. Nothing in Lean hashes anything: it is a label: what it is worth is what the hold of that sum in a sandbox is worth. -/
noncomputable def Try.pinned : Pinned := { name := "ytlkeibpaleiemaa", sum := "dabe1b6cecce76d9ee8e8c3f98271c68fbaf4ddbcb3b62388d2db01f3d8986b1", checked := Try.checked }
namespace Rows
def none {H : Type} : Left H := { results := [], args := [] }

/-- 'chancerylaw13.VerkeyOrder': WHATEVER THE INPUT: true; the input reads as it did. -/
def verkeyOrderSpec : ChangeSpec := { name := "verkeyOrder", fn := fun _ => fun
  | [d1, d2, d3, d4] => { results := [.lit (.bool true)], args := [d1, d2, d3, d4] }
  | _ => none }
def verkeyOrderRow : OpenClaim := { program := "ytlkeibpaleiemaa", sum := "dabe1b6cecce76d9ee8e8c3f98271c68fbaf4ddbcb3b62388d2db01f3d8986b1", func := "chancery/chancerylaw13.VerkeyOrder", spec := "verkeyOrder", inPlace := ["internal/bytealg.Compare"], unfollowed := true, recurses := true, apart := false }
def VerkeyOrderSaid : Prop := verkeyOrderRow.holds Try.pinned (OpenSpec.ofChange verkeyOrderSpec)

/-- ITS FALSE NEIGHBOUR: 'it returns false'. Refute it at one input. -/
def verkeyOrderWrong : ChangeSpec := { name := "verkeyOrder", fn := fun _ => fun
  | [d1, d2, d3, d4] => { results := [.lit (.bool false)], args := [d1, d2, d3, d4] }
  | _ => none }
def VerkeyOrderWrongFalsely : Prop := verkeyOrderRow.holds Try.pinned (OpenSpec.ofChange verkeyOrderWrong)

/-- 'chancerylaw13.VerkeyNumbers': WHATEVER THE INPUT: true; the input reads as it did. -/
def verkeyNumbersSpec : ChangeSpec := { name := "verkeyNumbers", fn := fun _ => fun
  | [] => { results := [.lit (.bool true)], args := [] }
  | _ => none }
def verkeyNumbersRow : OpenClaim := { program := "ytlkeibpaleiemaa", sum := "dabe1b6cecce76d9ee8e8c3f98271c68fbaf4ddbcb3b62388d2db01f3d8986b1", func := "chancery/chancerylaw13.VerkeyNumbers", spec := "verkeyNumbers", inPlace := ["internal/bytealg.Compare"], unfollowed := true, recurses := true, apart := false }
def VerkeyNumbersSaid : Prop := verkeyNumbersRow.holds Try.pinned (OpenSpec.ofChange verkeyNumbersSpec)

/-- ITS FALSE NEIGHBOUR: 'it returns false'. Refute it at one input. -/
def verkeyNumbersWrong : ChangeSpec := { name := "verkeyNumbers", fn := fun _ => fun
  | [] => { results := [.lit (.bool false)], args := [] }
  | _ => none }
def VerkeyNumbersWrongFalsely : Prop := verkeyNumbersRow.holds Try.pinned (OpenSpec.ofChange verkeyNumbersWrong)

/-- 'chancerylaw13.VerkeyTells': WHATEVER THE INPUT: true; the input reads as it did. -/
def verkeyTellsSpec : ChangeSpec := { name := "verkeyTells", fn := fun _ => fun
  | [d1, d2, d3] => { results := [.lit (.bool true)], args := [d1, d2, d3] }
  | _ => none }
def verkeyTellsRow : OpenClaim := { program := "ytlkeibpaleiemaa", sum := "dabe1b6cecce76d9ee8e8c3f98271c68fbaf4ddbcb3b62388d2db01f3d8986b1", func := "chancery/chancerylaw13.VerkeyTells", spec := "verkeyTells", inPlace := ["internal/bytealg.Compare"], unfollowed := true, recurses := true, apart := false }
def VerkeyTellsSaid : Prop := verkeyTellsRow.holds Try.pinned (OpenSpec.ofChange verkeyTellsSpec)

/-- ITS FALSE NEIGHBOUR: 'it returns false'. Refute it at one input. -/
def verkeyTellsWrong : ChangeSpec := { name := "verkeyTells", fn := fun _ => fun
  | [d1, d2, d3] => { results := [.lit (.bool false)], args := [d1, d2, d3] }
  | _ => none }
def VerkeyTellsWrongFalsely : Prop := verkeyTellsRow.holds Try.pinned (OpenSpec.ofChange verkeyTellsWrong)

/-- 'chancerylaw13.VerkeyBounds': WHATEVER THE INPUT: true; the input reads as it did. -/
def verkeyBoundsSpec : ChangeSpec := { name := "verkeyBounds", fn := fun _ => fun
  | [d1, d2, d3] => { results := [.lit (.bool true)], args := [d1, d2, d3] }
  | _ => none }
def verkeyBoundsRow : OpenClaim := { program := "ytlkeibpaleiemaa", sum := "dabe1b6cecce76d9ee8e8c3f98271c68fbaf4ddbcb3b62388d2db01f3d8986b1", func := "chancery/chancerylaw13.VerkeyBounds", spec := "verkeyBounds", inPlace := ["internal/bytealg.Compare"], unfollowed := true, recurses := true, apart := false }
def VerkeyBoundsSaid : Prop := verkeyBoundsRow.holds Try.pinned (OpenSpec.ofChange verkeyBoundsSpec)

/-- ITS FALSE NEIGHBOUR: 'it returns false'. Refute it at one input. -/
def verkeyBoundsWrong : ChangeSpec := { name := "verkeyBounds", fn := fun _ => fun
  | [d1, d2, d3] => { results := [.lit (.bool false)], args := [d1, d2, d3] }
  | _ => none }
def VerkeyBoundsWrongFalsely : Prop := verkeyBoundsRow.holds Try.pinned (OpenSpec.ofChange verkeyBoundsWrong)

/- THE SECOND FORM. 'bulk': how many values and letters a reading holds, each counted each time it is reached (what is shared counts as often as it is met; a slice's spare places count too). A statement '..UptoSaid' is the law's where the arguments, and the package variables that the reading takes, are together of bulk at most 1048576: NARROWER than '..Said'. Prove '..Said' where nothing that the law and all that it calls make is longer than what came in: it says more and counts as full. Else prove '..UptoSaid'. A law counts once. -/
mutual
def uptoBulk {H : Type} : DataW H → Nat
  | .lit (.string bytes) => bytes.length + 1
  | .lit _ => 1
  | .nil => 1
  | .ptr d => uptoBulk d + 1
  | .slice elems spare => uptoBulkAll elems + uptoBulkAll spare + 1
  | .agg parts => uptoBulkAll parts + 1
  | .iface _ d => uptoBulk d + 1
  | .map entries => uptoBulkEntries entries + 1
  | .held _ => 1
def uptoBulkAll {H : Type} : List (DataW H) → Nat
  | [] => 0
  | d :: r => uptoBulk d + uptoBulkAll r
def uptoBulkEntries {H : Type} : List (Lit × DataW H) → Nat
  | [] => 0
  | x :: r => uptoBulkEntry x + uptoBulkEntries r
def uptoBulkEntry {H : Type} : Lit × DataW H → Nat
  | (.string bytes, d) => bytes.length + uptoBulk d + 1
  | (_, d) => uptoBulk d + 1
 end
def uptoSmall : (H : Type) → List (DataW H) → Bool := fun _ ds => decide (uptoBulkAll ds ≤ 1048576)
def OpenSpec.upto (s : _root_.Go.ChangeSpec) : _root_.Go.OpenSpec := { _root_.Go.OpenSpec.ofChange s with cond := some uptoSmall }

/-- 'chancerylaw13.VerkeyOrder', WHERE WHAT IT READS IS OF BULK AT MOST 1048576: true; the input reads as it did. -/
def verkeyOrderUptoRow : OpenClaim := { program := "ytlkeibpaleiemaa", sum := "dabe1b6cecce76d9ee8e8c3f98271c68fbaf4ddbcb3b62388d2db01f3d8986b1", func := "chancery/chancerylaw13.VerkeyOrder", spec := "verkeyOrder", inPlace := ["internal/bytealg.Compare"], unfollowed := true, recurses := true, apart := false, narrowed := true }
def VerkeyOrderUptoSaid : Prop := verkeyOrderUptoRow.holds Try.pinned (OpenSpec.upto verkeyOrderSpec)

/-- 'chancerylaw13.VerkeyNumbers', WHERE WHAT IT READS IS OF BULK AT MOST 1048576: true; the input reads as it did. -/
def verkeyNumbersUptoRow : OpenClaim := { program := "ytlkeibpaleiemaa", sum := "dabe1b6cecce76d9ee8e8c3f98271c68fbaf4ddbcb3b62388d2db01f3d8986b1", func := "chancery/chancerylaw13.VerkeyNumbers", spec := "verkeyNumbers", inPlace := ["internal/bytealg.Compare"], unfollowed := true, recurses := true, apart := false, narrowed := true }
def VerkeyNumbersUptoSaid : Prop := verkeyNumbersUptoRow.holds Try.pinned (OpenSpec.upto verkeyNumbersSpec)

/-- 'chancerylaw13.VerkeyTells', WHERE WHAT IT READS IS OF BULK AT MOST 1048576: true; the input reads as it did. -/
def verkeyTellsUptoRow : OpenClaim := { program := "ytlkeibpaleiemaa", sum := "dabe1b6cecce76d9ee8e8c3f98271c68fbaf4ddbcb3b62388d2db01f3d8986b1", func := "chancery/chancerylaw13.VerkeyTells", spec := "verkeyTells", inPlace := ["internal/bytealg.Compare"], unfollowed := true, recurses := true, apart := false, narrowed := true }
def VerkeyTellsUptoSaid : Prop := verkeyTellsUptoRow.holds Try.pinned (OpenSpec.upto verkeyTellsSpec)

/-- 'chancerylaw13.VerkeyBounds', WHERE WHAT IT READS IS OF BULK AT MOST 1048576: true; the input reads as it did. -/
def verkeyBoundsUptoRow : OpenClaim := { program := "ytlkeibpaleiemaa", sum := "dabe1b6cecce76d9ee8e8c3f98271c68fbaf4ddbcb3b62388d2db01f3d8986b1", func := "chancery/chancerylaw13.VerkeyBounds", spec := "verkeyBounds", inPlace := ["internal/bytealg.Compare"], unfollowed := true, recurses := true, apart := false, narrowed := true }
def VerkeyBoundsUptoSaid : Prop := verkeyBoundsUptoRow.holds Try.pinned (OpenSpec.upto verkeyBoundsSpec)

end Rows
end Go.Proofs.Ytlkeibpaleiemaa
