/-
  No cell of these rows narrows 'for every input' (looked for: loops, veiled, ifaces, maps, wideKeys, modest, calm, conditions, laid).
  DERIVED. THE GIVEN ROWS OF THIS SEAT. 10 by the template 'for every input the law returns true; each argument reads behind the call as it read before'; 0 by the template 'total and deterministic' (their statements: YtijaphlmomcbfaaTotals.lean).
  GIVEN WITH THE SEED: the statements are not yours to turn. If you find one false, say at which input.
  Laid BY PROGRAM, IN A SANDBOX (cutbox-rows.mjs): the forced cells as the released guide's own fill.sh prints them over the translation 1c252dcfbfbf62d2… (all of the seat's roots in one cut). By AI agents, Wed Nov 11 2026. No macro, syntax, notation, axiom, sorry.
-/
import Derived.Test.YtijaphlmomcbfaaChecked
import GoSem.Claim
import GoSem.ClaimJoined
import GoSem.ClaimMapViews
import Derived.JoinedTies
import Derived.KernelRfl
namespace Go.Proofs.Ytijaphlmomcbfaa
/- THE CELL 'sum', in the pinned program and in every row, IS THE sha256 OF THE DUMP (.gsa) THAT YtijaphlmomcbfaaProg.lean LOADS. Nothing in Lean hashes anything: it is a label: what it is worth is what the hold of that sum in a sandbox is worth. -/
noncomputable def Try.pinned : Pinned := { name := "ytijaphlmomcbfaa", sum := "1c252dcfbfbf62d2c316ea8c53b6bc4ed89927f89b189cc2a93bebbe85a86cdf", checked := Try.checked }
namespace Rows
def none {H : Type} : Left H := { results := [], args := [] }

/-- 'stopgatelaw13.CodeShapes': WHATEVER THE INPUT: true; the input reads as it did. -/
def codeShapesSpec : ChangeSpec := { name := "codeShapes", fn := fun _ => fun
  | [d] => { results := [.lit (.bool true)], args := [d] }
  | _ => none }
def codeShapesRow : OpenClaim := { program := "ytijaphlmomcbfaa", sum := "1c252dcfbfbf62d2c316ea8c53b6bc4ed89927f89b189cc2a93bebbe85a86cdf", func := "stopgate/stopgatelaw13.CodeShapes", spec := "codeShapes", unfollowed := true, recurses := true, apart := false }
def CodeShapesSaid : Prop := codeShapesRow.holds Try.pinned (OpenSpec.ofChange codeShapesSpec)

/-- ITS FALSE NEIGHBOUR: 'it returns false'. Refute it at one input. -/
def codeShapesWrong : ChangeSpec := { name := "codeShapes", fn := fun _ => fun
  | [d] => { results := [.lit (.bool false)], args := [d] }
  | _ => none }
def CodeShapesWrongFalsely : Prop := codeShapesRow.holds Try.pinned (OpenSpec.ofChange codeShapesWrong)

/-- 'stopgatelaw13.CodeHalls': WHATEVER THE INPUT: true; the input reads as it did. -/
def codeHallsSpec : ChangeSpec := { name := "codeHalls", fn := fun _ => fun
  | [d1, d2] => { results := [.lit (.bool true)], args := [d1, d2] }
  | _ => none }
def codeHallsRow : OpenClaim := { program := "ytijaphlmomcbfaa", sum := "1c252dcfbfbf62d2c316ea8c53b6bc4ed89927f89b189cc2a93bebbe85a86cdf", func := "stopgate/stopgatelaw13.CodeHalls", spec := "codeHalls", unfollowed := true, recurses := true, apart := false }
def CodeHallsSaid : Prop := codeHallsRow.holds Try.pinned (OpenSpec.ofChange codeHallsSpec)

/-- ITS FALSE NEIGHBOUR: 'it returns false'. Refute it at one input. -/
def codeHallsWrong : ChangeSpec := { name := "codeHalls", fn := fun _ => fun
  | [d1, d2] => { results := [.lit (.bool false)], args := [d1, d2] }
  | _ => none }
def CodeHallsWrongFalsely : Prop := codeHallsRow.holds Try.pinned (OpenSpec.ofChange codeHallsWrong)

/-- 'stopgatelaw13.CodeBack': WHATEVER THE INPUT: true; the input reads as it did. -/
def codeBackSpec : ChangeSpec := { name := "codeBack", fn := fun _ => fun
  | [d1, d2, d3] => { results := [.lit (.bool true)], args := [d1, d2, d3] }
  | _ => none }
def codeBackRow : OpenClaim := { program := "ytijaphlmomcbfaa", sum := "1c252dcfbfbf62d2c316ea8c53b6bc4ed89927f89b189cc2a93bebbe85a86cdf", func := "stopgate/stopgatelaw13.CodeBack", spec := "codeBack", unfollowed := true, recurses := true, apart := false }
def CodeBackSaid : Prop := codeBackRow.holds Try.pinned (OpenSpec.ofChange codeBackSpec)

/-- ITS FALSE NEIGHBOUR: 'it returns false'. Refute it at one input. -/
def codeBackWrong : ChangeSpec := { name := "codeBack", fn := fun _ => fun
  | [d1, d2, d3] => { results := [.lit (.bool false)], args := [d1, d2, d3] }
  | _ => none }
def CodeBackWrongFalsely : Prop := codeBackRow.holds Try.pinned (OpenSpec.ofChange codeBackWrong)

/-- 'stopgatelaw13.CodeCells': WHATEVER THE INPUT: true; the input reads as it did. -/
def codeCellsSpec : ChangeSpec := { name := "codeCells", fn := fun _ => fun
  | [d1, d2] => { results := [.lit (.bool true)], args := [d1, d2] }
  | _ => none }
def codeCellsRow : OpenClaim := { program := "ytijaphlmomcbfaa", sum := "1c252dcfbfbf62d2c316ea8c53b6bc4ed89927f89b189cc2a93bebbe85a86cdf", func := "stopgate/stopgatelaw13.CodeCells", spec := "codeCells", unfollowed := true, recurses := true, apart := false }
def CodeCellsSaid : Prop := codeCellsRow.holds Try.pinned (OpenSpec.ofChange codeCellsSpec)

/-- ITS FALSE NEIGHBOUR: 'it returns false'. Refute it at one input. -/
def codeCellsWrong : ChangeSpec := { name := "codeCells", fn := fun _ => fun
  | [d1, d2] => { results := [.lit (.bool false)], args := [d1, d2] }
  | _ => none }
def CodeCellsWrongFalsely : Prop := codeCellsRow.holds Try.pinned (OpenSpec.ofChange codeCellsWrong)

/-- 'stopgatelaw13.CodeReads': WHATEVER THE INPUT: true; the input reads as it did. -/
def codeReadsSpec : ChangeSpec := { name := "codeReads", fn := fun _ => fun
  | [d1, d2] => { results := [.lit (.bool true)], args := [d1, d2] }
  | _ => none }
def codeReadsRow : OpenClaim := { program := "ytijaphlmomcbfaa", sum := "1c252dcfbfbf62d2c316ea8c53b6bc4ed89927f89b189cc2a93bebbe85a86cdf", func := "stopgate/stopgatelaw13.CodeReads", spec := "codeReads", unfollowed := true, recurses := true, apart := false }
def CodeReadsSaid : Prop := codeReadsRow.holds Try.pinned (OpenSpec.ofChange codeReadsSpec)

/-- ITS FALSE NEIGHBOUR: 'it returns false'. Refute it at one input. -/
def codeReadsWrong : ChangeSpec := { name := "codeReads", fn := fun _ => fun
  | [d1, d2] => { results := [.lit (.bool false)], args := [d1, d2] }
  | _ => none }
def CodeReadsWrongFalsely : Prop := codeReadsRow.holds Try.pinned (OpenSpec.ofChange codeReadsWrong)

/-- 'stopgatelaw13.CodeCellsBack': WHATEVER THE INPUT: true; the input reads as it did. -/
def codeCellsBackSpec : ChangeSpec := { name := "codeCellsBack", fn := fun _ => fun
  | [d1, d2, d3] => { results := [.lit (.bool true)], args := [d1, d2, d3] }
  | _ => none }
def codeCellsBackRow : OpenClaim := { program := "ytijaphlmomcbfaa", sum := "1c252dcfbfbf62d2c316ea8c53b6bc4ed89927f89b189cc2a93bebbe85a86cdf", func := "stopgate/stopgatelaw13.CodeCellsBack", spec := "codeCellsBack", unfollowed := true, recurses := true, apart := false }
def CodeCellsBackSaid : Prop := codeCellsBackRow.holds Try.pinned (OpenSpec.ofChange codeCellsBackSpec)

/-- ITS FALSE NEIGHBOUR: 'it returns false'. Refute it at one input. -/
def codeCellsBackWrong : ChangeSpec := { name := "codeCellsBack", fn := fun _ => fun
  | [d1, d2, d3] => { results := [.lit (.bool false)], args := [d1, d2, d3] }
  | _ => none }
def CodeCellsBackWrongFalsely : Prop := codeCellsBackRow.holds Try.pinned (OpenSpec.ofChange codeCellsBackWrong)

/-- 'stopgatelaw15.LayoutTells': WHATEVER THE INPUT: true; the input reads as it did. -/
def layoutTellsSpec : ChangeSpec := { name := "layoutTells", fn := fun _ => fun
  | [d1, d2, d3, d4] => { results := [.lit (.bool true)], args := [d1, d2, d3, d4] }
  | _ => none }
def layoutTellsRow : OpenClaim := { program := "ytijaphlmomcbfaa", sum := "1c252dcfbfbf62d2c316ea8c53b6bc4ed89927f89b189cc2a93bebbe85a86cdf", func := "stopgate/stopgatelaw15.LayoutTells", spec := "layoutTells", unfollowed := true, recurses := true, apart := false }
def LayoutTellsSaid : Prop := layoutTellsRow.holds Try.pinned (OpenSpec.ofChange layoutTellsSpec)

/-- ITS FALSE NEIGHBOUR: 'it returns false'. Refute it at one input. -/
def layoutTellsWrong : ChangeSpec := { name := "layoutTells", fn := fun _ => fun
  | [d1, d2, d3, d4] => { results := [.lit (.bool false)], args := [d1, d2, d3, d4] }
  | _ => none }
def LayoutTellsWrongFalsely : Prop := layoutTellsRow.holds Try.pinned (OpenSpec.ofChange layoutTellsWrong)

/-- 'stopgatelaw15.LayoutOnce': WHATEVER THE INPUT: true; the input reads as it did. -/
def layoutOnceSpec : ChangeSpec := { name := "layoutOnce", fn := fun _ => fun
  | [d1, d2] => { results := [.lit (.bool true)], args := [d1, d2] }
  | _ => none }
def layoutOnceRow : OpenClaim := { program := "ytijaphlmomcbfaa", sum := "1c252dcfbfbf62d2c316ea8c53b6bc4ed89927f89b189cc2a93bebbe85a86cdf", func := "stopgate/stopgatelaw15.LayoutOnce", spec := "layoutOnce", unfollowed := true, recurses := true, apart := false }
def LayoutOnceSaid : Prop := layoutOnceRow.holds Try.pinned (OpenSpec.ofChange layoutOnceSpec)

/-- ITS FALSE NEIGHBOUR: 'it returns false'. Refute it at one input. -/
def layoutOnceWrong : ChangeSpec := { name := "layoutOnce", fn := fun _ => fun
  | [d1, d2] => { results := [.lit (.bool false)], args := [d1, d2] }
  | _ => none }
def LayoutOnceWrongFalsely : Prop := layoutOnceRow.holds Try.pinned (OpenSpec.ofChange layoutOnceWrong)

/-- 'stopgatelaw15.LayoutSetup': WHATEVER THE INPUT: true; the input reads as it did. -/
def layoutSetupSpec : ChangeSpec := { name := "layoutSetup", fn := fun _ => fun
  | [d1, d2] => { results := [.lit (.bool true)], args := [d1, d2] }
  | _ => none }
def layoutSetupRow : OpenClaim := { program := "ytijaphlmomcbfaa", sum := "1c252dcfbfbf62d2c316ea8c53b6bc4ed89927f89b189cc2a93bebbe85a86cdf", func := "stopgate/stopgatelaw15.LayoutSetup", spec := "layoutSetup", unfollowed := true, recurses := true, apart := false }
def LayoutSetupSaid : Prop := layoutSetupRow.holds Try.pinned (OpenSpec.ofChange layoutSetupSpec)

/-- ITS FALSE NEIGHBOUR: 'it returns false'. Refute it at one input. -/
def layoutSetupWrong : ChangeSpec := { name := "layoutSetup", fn := fun _ => fun
  | [d1, d2] => { results := [.lit (.bool false)], args := [d1, d2] }
  | _ => none }
def LayoutSetupWrongFalsely : Prop := layoutSetupRow.holds Try.pinned (OpenSpec.ofChange layoutSetupWrong)

/-- 'stopgatelaw31.InspectThreads': WHATEVER THE INPUT: true; the input reads as it did. -/
def inspectThreadsSpec : ChangeSpec := { name := "inspectThreads", fn := fun _ => fun
  | [d1, d2] => { results := [.lit (.bool true)], args := [d1, d2] }
  | _ => none }
def inspectThreadsRow : OpenClaim := { program := "ytijaphlmomcbfaa", sum := "1c252dcfbfbf62d2c316ea8c53b6bc4ed89927f89b189cc2a93bebbe85a86cdf", func := "stopgate/stopgatelaw31.InspectThreads", spec := "inspectThreads", unfollowed := true, recurses := true, apart := false }
def InspectThreadsSaid : Prop := inspectThreadsRow.holds Try.pinned (OpenSpec.ofChange inspectThreadsSpec)

/-- ITS FALSE NEIGHBOUR: 'it returns false'. Refute it at one input. -/
def inspectThreadsWrong : ChangeSpec := { name := "inspectThreads", fn := fun _ => fun
  | [d1, d2] => { results := [.lit (.bool false)], args := [d1, d2] }
  | _ => none }
def InspectThreadsWrongFalsely : Prop := inspectThreadsRow.holds Try.pinned (OpenSpec.ofChange inspectThreadsWrong)

/- THE SECOND FORM. 'bulk': how many values and letters a reading holds, each counted each time it is reached (what is shared counts as often as it is met; a slice's spare places count too). A statement '..UptoSaid' is the law's where the arguments, and the package variables that the reading takes, are together of bulk at most 1048576: NARROWER than '..Said'. Prove '..Said' where nothing that the law and all that it calls make is longer than what came in: it says more and counts as full. Else prove '..UptoSaid'. A law counts once. -/
mutual
def uptoBulk {H : Type} : DataW H → Nat
  | .lit (.string bytes) => bytes.length + 1
  | .lit _ => 1
  | .nil => 1
  | .ptr d => uptoBulk d + 1
  | .slice elems spare => uptoBulkAll elems + uptoBulkAll spare + 1
  | .agg parts => uptoBulkAll parts + 1
  | .iface _ d => uptoBulk d + 1
  | .map entries => uptoBulkEntries entries + 1
  | .held _ => 1
def uptoBulkAll {H : Type} : List (DataW H) → Nat
  | [] => 0
  | d :: r => uptoBulk d + uptoBulkAll r
def uptoBulkEntries {H : Type} : List (Lit × DataW H) → Nat
  | [] => 0
  | x :: r => uptoBulkEntry x + uptoBulkEntries r
def uptoBulkEntry {H : Type} : Lit × DataW H → Nat
  | (.string bytes, d) => bytes.length + uptoBulk d + 1
  | (_, d) => uptoBulk d + 1
 end
def uptoSmall : (H : Type) → List (DataW H) → Bool := fun _ ds => decide (uptoBulkAll ds ≤ 1048576)
def OpenSpec.upto (s : _root_.Go.ChangeSpec) : _root_.Go.OpenSpec := { _root_.Go.OpenSpec.ofChange s with cond := some uptoSmall }

/-- 'stopgatelaw13.CodeShapes', WHERE WHAT IT READS IS OF BULK AT MOST 1048576: true; the input reads as it did. -/
def codeShapesUptoRow : OpenClaim := { program := "ytijaphlmomcbfaa", sum := "1c252dcfbfbf62d2c316ea8c53b6bc4ed89927f89b189cc2a93bebbe85a86cdf", func := "stopgate/stopgatelaw13.CodeShapes", spec := "codeShapes", unfollowed := true, recurses := true, apart := false, narrowed := true }
def CodeShapesUptoSaid : Prop := codeShapesUptoRow.holds Try.pinned (OpenSpec.upto codeShapesSpec)

/-- 'stopgatelaw13.CodeHalls', WHERE WHAT IT READS IS OF BULK AT MOST 1048576: true; the input reads as it did. -/
def codeHallsUptoRow : OpenClaim := { program := "ytijaphlmomcbfaa", sum := "1c252dcfbfbf62d2c316ea8c53b6bc4ed89927f89b189cc2a93bebbe85a86cdf", func := "stopgate/stopgatelaw13.CodeHalls", spec := "codeHalls", unfollowed := true, recurses := true, apart := false, narrowed := true }
def CodeHallsUptoSaid : Prop := codeHallsUptoRow.holds Try.pinned (OpenSpec.upto codeHallsSpec)

/-- 'stopgatelaw13.CodeBack', WHERE WHAT IT READS IS OF BULK AT MOST 1048576: true; the input reads as it did. -/
def codeBackUptoRow : OpenClaim := { program := "ytijaphlmomcbfaa", sum := "1c252dcfbfbf62d2c316ea8c53b6bc4ed89927f89b189cc2a93bebbe85a86cdf", func := "stopgate/stopgatelaw13.CodeBack", spec := "codeBack", unfollowed := true, recurses := true, apart := false, narrowed := true }
def CodeBackUptoSaid : Prop := codeBackUptoRow.holds Try.pinned (OpenSpec.upto codeBackSpec)

/-- 'stopgatelaw13.CodeCells', WHERE WHAT IT READS IS OF BULK AT MOST 1048576: true; the input reads as it did. -/
def codeCellsUptoRow : OpenClaim := { program := "ytijaphlmomcbfaa", sum := "1c252dcfbfbf62d2c316ea8c53b6bc4ed89927f89b189cc2a93bebbe85a86cdf", func := "stopgate/stopgatelaw13.CodeCells", spec := "codeCells", unfollowed := true, recurses := true, apart := false, narrowed := true }
def CodeCellsUptoSaid : Prop := codeCellsUptoRow.holds Try.pinned (OpenSpec.upto codeCellsSpec)

/-- 'stopgatelaw13.CodeReads', WHERE WHAT IT READS IS OF BULK AT MOST 1048576: true; the input reads as it did. -/
def codeReadsUptoRow : OpenClaim := { program := "ytijaphlmomcbfaa", sum := "1c252dcfbfbf62d2c316ea8c53b6bc4ed89927f89b189cc2a93bebbe85a86cdf", func := "stopgate/stopgatelaw13.CodeReads", spec := "codeReads", unfollowed := true, recurses := true, apart := false, narrowed := true }
def CodeReadsUptoSaid : Prop := codeReadsUptoRow.holds Try.pinned (OpenSpec.upto codeReadsSpec)

/-- 'stopgatelaw13.CodeCellsBack', WHERE WHAT IT READS IS OF BULK AT MOST 1048576: true; the input reads as it did. -/
def codeCellsBackUptoRow : OpenClaim := { program := "ytijaphlmomcbfaa", sum := "1c252dcfbfbf62d2c316ea8c53b6bc4ed89927f89b189cc2a93bebbe85a86cdf", func := "stopgate/stopgatelaw13.CodeCellsBack", spec := "codeCellsBack", unfollowed := true, recurses := true, apart := false, narrowed := true }
def CodeCellsBackUptoSaid : Prop := codeCellsBackUptoRow.holds Try.pinned (OpenSpec.upto codeCellsBackSpec)

/-- 'stopgatelaw15.LayoutTells', WHERE WHAT IT READS IS OF BULK AT MOST 1048576: true; the input reads as it did. -/
def layoutTellsUptoRow : OpenClaim := { program := "ytijaphlmomcbfaa", sum := "1c252dcfbfbf62d2c316ea8c53b6bc4ed89927f89b189cc2a93bebbe85a86cdf", func := "stopgate/stopgatelaw15.LayoutTells", spec := "layoutTells", unfollowed := true, recurses := true, apart := false, narrowed := true }
def LayoutTellsUptoSaid : Prop := layoutTellsUptoRow.holds Try.pinned (OpenSpec.upto layoutTellsSpec)

/-- 'stopgatelaw15.LayoutOnce', WHERE WHAT IT READS IS OF BULK AT MOST 1048576: true; the input reads as it did. -/
def layoutOnceUptoRow : OpenClaim := { program := "ytijaphlmomcbfaa", sum := "1c252dcfbfbf62d2c316ea8c53b6bc4ed89927f89b189cc2a93bebbe85a86cdf", func := "stopgate/stopgatelaw15.LayoutOnce", spec := "layoutOnce", unfollowed := true, recurses := true, apart := false, narrowed := true }
def LayoutOnceUptoSaid : Prop := layoutOnceUptoRow.holds Try.pinned (OpenSpec.upto layoutOnceSpec)

/-- 'stopgatelaw15.LayoutSetup', WHERE WHAT IT READS IS OF BULK AT MOST 1048576: true; the input reads as it did. -/
def layoutSetupUptoRow : OpenClaim := { program := "ytijaphlmomcbfaa", sum := "1c252dcfbfbf62d2c316ea8c53b6bc4ed89927f89b189cc2a93bebbe85a86cdf", func := "stopgate/stopgatelaw15.LayoutSetup", spec := "layoutSetup", unfollowed := true, recurses := true, apart := false, narrowed := true }
def LayoutSetupUptoSaid : Prop := layoutSetupUptoRow.holds Try.pinned (OpenSpec.upto layoutSetupSpec)

/-- 'stopgatelaw31.InspectThreads', WHERE WHAT IT READS IS OF BULK AT MOST 1048576: true; the input reads as it did. -/
def inspectThreadsUptoRow : OpenClaim := { program := "ytijaphlmomcbfaa", sum := "1c252dcfbfbf62d2c316ea8c53b6bc4ed89927f89b189cc2a93bebbe85a86cdf", func := "stopgate/stopgatelaw31.InspectThreads", spec := "inspectThreads", unfollowed := true, recurses := true, apart := false, narrowed := true }
def InspectThreadsUptoSaid : Prop := inspectThreadsUptoRow.holds Try.pinned (OpenSpec.upto inspectThreadsSpec)

end Rows
end Go.Proofs.Ytijaphlmomcbfaa
