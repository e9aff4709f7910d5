/-
  No cell of these rows narrows 'for every input' (looked for: loops, veiled, ifaces, maps, wideKeys, modest, calm, conditions, laid).
  DERIVED. THE GIVEN ROWS OF THIS SEAT. 15 by the template 'for every input the law returns true; each argument reads behind the call as it read before'; 0 by the template 'total and deterministic' (their statements: YtkichjejadkdgaaTotals.lean).
  GIVEN WITH THE SEED: the statements are not yours to turn. If you find one false, say at which input.
  Laid BY PROGRAM, IN A SANDBOX (cutbox-rows.mjs): the forced cells as the released guide's own fill.sh prints them over the translation de68da41d31e158a… (all of the seat's roots in one cut). By AI agents, Wed Nov 11 2026. No macro, syntax, notation, axiom, sorry.
-/
import Derived.Test.YtkichjejadkdgaaChecked
import GoSem.Claim
import GoSem.ClaimJoined
import GoSem.ClaimMapViews
import Derived.JoinedTies
import Derived.KernelRfl
namespace Go.Proofs.Ytkichjejadkdgaa
/- THE CELL 'sum', in the pinned program and in every row, IS THE sha256 OF THE DUMP (.gsa) THAT YtkichjejadkdgaaProg.lean LOADS. Nothing in Lean hashes anything: it is a label: what it is worth is what the hold of that sum in a sandbox is worth. -/
noncomputable def Try.pinned : Pinned := { name := "ytkichjejadkdgaa", sum := "de68da41d31e158a2247fbfc932573a77d65ab77fd6a7452544681a94dfa58f5", checked := Try.checked }
namespace Rows
def none {H : Type} : Left H := { results := [], args := [] }

/-- 'stopgatelaw32.StatsSpans': WHATEVER THE INPUT: true; the input reads as it did. -/
def statsSpansSpec : ChangeSpec := { name := "statsSpans", fn := fun _ => fun
  | [d1, d2] => { results := [.lit (.bool true)], args := [d1, d2] }
  | _ => none }
def statsSpansRow : OpenClaim := { program := "ytkichjejadkdgaa", sum := "de68da41d31e158a2247fbfc932573a77d65ab77fd6a7452544681a94dfa58f5", func := "stopgate/stopgatelaw32.StatsSpans", spec := "statsSpans", apart := false }
def StatsSpansSaid : Prop := statsSpansRow.holds Try.pinned (OpenSpec.ofChange statsSpansSpec)

/-- ITS FALSE NEIGHBOUR: 'it returns false'. Refute it at one input. -/
def statsSpansWrong : ChangeSpec := { name := "statsSpans", fn := fun _ => fun
  | [d1, d2] => { results := [.lit (.bool false)], args := [d1, d2] }
  | _ => none }
def StatsSpansWrongFalsely : Prop := statsSpansRow.holds Try.pinned (OpenSpec.ofChange statsSpansWrong)

/-- 'stopgatelaw32.StatsSums': WHATEVER THE INPUT: true; the input reads as it did. -/
def statsSumsSpec : ChangeSpec := { name := "statsSums", fn := fun _ => fun
  | [d1, d2] => { results := [.lit (.bool true)], args := [d1, d2] }
  | _ => none }
def statsSumsRow : OpenClaim := { program := "ytkichjejadkdgaa", sum := "de68da41d31e158a2247fbfc932573a77d65ab77fd6a7452544681a94dfa58f5", func := "stopgate/stopgatelaw32.StatsSums", spec := "statsSums", recurses := true, apart := false }
def StatsSumsSaid : Prop := statsSumsRow.holds Try.pinned (OpenSpec.ofChange statsSumsSpec)

/-- ITS FALSE NEIGHBOUR: 'it returns false'. Refute it at one input. -/
def statsSumsWrong : ChangeSpec := { name := "statsSums", fn := fun _ => fun
  | [d1, d2] => { results := [.lit (.bool false)], args := [d1, d2] }
  | _ => none }
def StatsSumsWrongFalsely : Prop := statsSumsRow.holds Try.pinned (OpenSpec.ofChange statsSumsWrong)

/-- 'stopgatelaw10.WaitsMoves': WHATEVER THE INPUT: true; the input reads as it did. -/
def waitsMovesSpec : ChangeSpec := { name := "waitsMoves", fn := fun _ => fun
  | [d1, d2, d3] => { results := [.lit (.bool true)], args := [d1, d2, d3] }
  | _ => none }
def waitsMovesRow : OpenClaim := { program := "ytkichjejadkdgaa", sum := "de68da41d31e158a2247fbfc932573a77d65ab77fd6a7452544681a94dfa58f5", func := "stopgate/stopgatelaw10.WaitsMoves", spec := "waitsMoves", unfollowed := true, recurses := true, apart := false }
def WaitsMovesSaid : Prop := waitsMovesRow.holds Try.pinned (OpenSpec.ofChange waitsMovesSpec)

/-- ITS FALSE NEIGHBOUR: 'it returns false'. Refute it at one input. -/
def waitsMovesWrong : ChangeSpec := { name := "waitsMoves", fn := fun _ => fun
  | [d1, d2, d3] => { results := [.lit (.bool false)], args := [d1, d2, d3] }
  | _ => none }
def WaitsMovesWrongFalsely : Prop := waitsMovesRow.holds Try.pinned (OpenSpec.ofChange waitsMovesWrong)

/-- 'stopgatelaw10.WaitsUndoes': WHATEVER THE INPUT: true; the input reads as it did. -/
def waitsUndoesSpec : ChangeSpec := { name := "waitsUndoes", fn := fun _ => fun
  | [d1, d2, d3] => { results := [.lit (.bool true)], args := [d1, d2, d3] }
  | _ => none }
def waitsUndoesRow : OpenClaim := { program := "ytkichjejadkdgaa", sum := "de68da41d31e158a2247fbfc932573a77d65ab77fd6a7452544681a94dfa58f5", func := "stopgate/stopgatelaw10.WaitsUndoes", spec := "waitsUndoes", unfollowed := true, recurses := true, apart := false }
def WaitsUndoesSaid : Prop := waitsUndoesRow.holds Try.pinned (OpenSpec.ofChange waitsUndoesSpec)

/-- ITS FALSE NEIGHBOUR: 'it returns false'. Refute it at one input. -/
def waitsUndoesWrong : ChangeSpec := { name := "waitsUndoes", fn := fun _ => fun
  | [d1, d2, d3] => { results := [.lit (.bool false)], args := [d1, d2, d3] }
  | _ => none }
def WaitsUndoesWrongFalsely : Prop := waitsUndoesRow.holds Try.pinned (OpenSpec.ofChange waitsUndoesWrong)

/-- 'stopgatelaw10.WaitsFirst': WHATEVER THE INPUT: true; the input reads as it did. -/
def waitsFirstSpec : ChangeSpec := { name := "waitsFirst", fn := fun _ => fun
  | [d1, d2, d3] => { results := [.lit (.bool true)], args := [d1, d2, d3] }
  | _ => none }
def waitsFirstRow : OpenClaim := { program := "ytkichjejadkdgaa", sum := "de68da41d31e158a2247fbfc932573a77d65ab77fd6a7452544681a94dfa58f5", func := "stopgate/stopgatelaw10.WaitsFirst", spec := "waitsFirst", unfollowed := true, recurses := true, apart := false }
def WaitsFirstSaid : Prop := waitsFirstRow.holds Try.pinned (OpenSpec.ofChange waitsFirstSpec)

/-- ITS FALSE NEIGHBOUR: 'it returns false'. Refute it at one input. -/
def waitsFirstWrong : ChangeSpec := { name := "waitsFirst", fn := fun _ => fun
  | [d1, d2, d3] => { results := [.lit (.bool false)], args := [d1, d2, d3] }
  | _ => none }
def WaitsFirstWrongFalsely : Prop := waitsFirstRow.holds Try.pinned (OpenSpec.ofChange waitsFirstWrong)

/-- 'stopgatelaw10.WaitsTells': WHATEVER THE INPUT: true; the input reads as it did. -/
def waitsTellsSpec : ChangeSpec := { name := "waitsTells", fn := fun _ => fun
  | [d1, d2, d3, d4] => { results := [.lit (.bool true)], args := [d1, d2, d3, d4] }
  | _ => none }
def waitsTellsRow : OpenClaim := { program := "ytkichjejadkdgaa", sum := "de68da41d31e158a2247fbfc932573a77d65ab77fd6a7452544681a94dfa58f5", func := "stopgate/stopgatelaw10.WaitsTells", spec := "waitsTells", unfollowed := true, recurses := true, apart := false }
def WaitsTellsSaid : Prop := waitsTellsRow.holds Try.pinned (OpenSpec.ofChange waitsTellsSpec)

/-- ITS FALSE NEIGHBOUR: 'it returns false'. Refute it at one input. -/
def waitsTellsWrong : ChangeSpec := { name := "waitsTells", fn := fun _ => fun
  | [d1, d2, d3, d4] => { results := [.lit (.bool false)], args := [d1, d2, d3, d4] }
  | _ => none }
def WaitsTellsWrongFalsely : Prop := waitsTellsRow.holds Try.pinned (OpenSpec.ofChange waitsTellsWrong)

/-- 'stopgatelaw11.ChansDo': WHATEVER THE INPUT: true; the input reads as it did. -/
def chansDoSpec : ChangeSpec := { name := "chansDo", fn := fun _ => fun
  | [d1, d2, d3, d4, d5] => { results := [.lit (.bool true)], args := [d1, d2, d3, d4, d5] }
  | _ => none }
def chansDoRow : OpenClaim := { program := "ytkichjejadkdgaa", sum := "de68da41d31e158a2247fbfc932573a77d65ab77fd6a7452544681a94dfa58f5", func := "stopgate/stopgatelaw11.ChansDo", spec := "chansDo", unfollowed := true, recurses := true, apart := false }
def ChansDoSaid : Prop := chansDoRow.holds Try.pinned (OpenSpec.ofChange chansDoSpec)

/-- ITS FALSE NEIGHBOUR: 'it returns false'. Refute it at one input. -/
def chansDoWrong : ChangeSpec := { name := "chansDo", fn := fun _ => fun
  | [d1, d2, d3, d4, d5] => { results := [.lit (.bool false)], args := [d1, d2, d3, d4, d5] }
  | _ => none }
def ChansDoWrongFalsely : Prop := chansDoRow.holds Try.pinned (OpenSpec.ofChange chansDoWrong)

/-- 'stopgatelaw11.ChansOne': WHATEVER THE INPUT: true; the input reads as it did. -/
def chansOneSpec : ChangeSpec := { name := "chansOne", fn := fun _ => fun
  | [d1, d2, d3, d4, d5] => { results := [.lit (.bool true)], args := [d1, d2, d3, d4, d5] }
  | _ => none }
def chansOneRow : OpenClaim := { program := "ytkichjejadkdgaa", sum := "de68da41d31e158a2247fbfc932573a77d65ab77fd6a7452544681a94dfa58f5", func := "stopgate/stopgatelaw11.ChansOne", spec := "chansOne", unfollowed := true, recurses := true, apart := false }
def ChansOneSaid : Prop := chansOneRow.holds Try.pinned (OpenSpec.ofChange chansOneSpec)

/-- ITS FALSE NEIGHBOUR: 'it returns false'. Refute it at one input. -/
def chansOneWrong : ChangeSpec := { name := "chansOne", fn := fun _ => fun
  | [d1, d2, d3, d4, d5] => { results := [.lit (.bool false)], args := [d1, d2, d3, d4, d5] }
  | _ => none }
def ChansOneWrongFalsely : Prop := chansOneRow.holds Try.pinned (OpenSpec.ofChange chansOneWrong)

/-- 'stopgatelaw11.ChansAfter': WHATEVER THE INPUT: true; the input reads as it did. -/
def chansAfterSpec : ChangeSpec := { name := "chansAfter", fn := fun _ => fun
  | [d1, d2, d3] => { results := [.lit (.bool true)], args := [d1, d2, d3] }
  | _ => none }
def chansAfterRow : OpenClaim := { program := "ytkichjejadkdgaa", sum := "de68da41d31e158a2247fbfc932573a77d65ab77fd6a7452544681a94dfa58f5", func := "stopgate/stopgatelaw11.ChansAfter", spec := "chansAfter", unfollowed := true, recurses := true, apart := false }
def ChansAfterSaid : Prop := chansAfterRow.holds Try.pinned (OpenSpec.ofChange chansAfterSpec)

/-- ITS FALSE NEIGHBOUR: 'it returns false'. Refute it at one input. -/
def chansAfterWrong : ChangeSpec := { name := "chansAfter", fn := fun _ => fun
  | [d1, d2, d3] => { results := [.lit (.bool false)], args := [d1, d2, d3] }
  | _ => none }
def ChansAfterWrongFalsely : Prop := chansAfterRow.holds Try.pinned (OpenSpec.ofChange chansAfterWrong)

/-- 'stopgatelaw13.CodeShapes': WHATEVER THE INPUT: true; the input reads as it did. -/
def codeShapesSpec : ChangeSpec := { name := "codeShapes", fn := fun _ => fun
  | [d] => { results := [.lit (.bool true)], args := [d] }
  | _ => none }
def codeShapesRow : OpenClaim := { program := "ytkichjejadkdgaa", sum := "de68da41d31e158a2247fbfc932573a77d65ab77fd6a7452544681a94dfa58f5", func := "stopgate/stopgatelaw13.CodeShapes", spec := "codeShapes", unfollowed := true, recurses := true, apart := false }
def CodeShapesSaid : Prop := codeShapesRow.holds Try.pinned (OpenSpec.ofChange codeShapesSpec)

/-- ITS FALSE NEIGHBOUR: 'it returns false'. Refute it at one input. -/
def codeShapesWrong : ChangeSpec := { name := "codeShapes", fn := fun _ => fun
  | [d] => { results := [.lit (.bool false)], args := [d] }
  | _ => none }
def CodeShapesWrongFalsely : Prop := codeShapesRow.holds Try.pinned (OpenSpec.ofChange codeShapesWrong)

/-- 'stopgatelaw13.CodeHalls': WHATEVER THE INPUT: true; the input reads as it did. -/
def codeHallsSpec : ChangeSpec := { name := "codeHalls", fn := fun _ => fun
  | [d1, d2] => { results := [.lit (.bool true)], args := [d1, d2] }
  | _ => none }
def codeHallsRow : OpenClaim := { program := "ytkichjejadkdgaa", sum := "de68da41d31e158a2247fbfc932573a77d65ab77fd6a7452544681a94dfa58f5", func := "stopgate/stopgatelaw13.CodeHalls", spec := "codeHalls", unfollowed := true, recurses := true, apart := false }
def CodeHallsSaid : Prop := codeHallsRow.holds Try.pinned (OpenSpec.ofChange codeHallsSpec)

/-- ITS FALSE NEIGHBOUR: 'it returns false'. Refute it at one input. -/
def codeHallsWrong : ChangeSpec := { name := "codeHalls", fn := fun _ => fun
  | [d1, d2] => { results := [.lit (.bool false)], args := [d1, d2] }
  | _ => none }
def CodeHallsWrongFalsely : Prop := codeHallsRow.holds Try.pinned (OpenSpec.ofChange codeHallsWrong)

/-- 'stopgatelaw13.CodeBack': WHATEVER THE INPUT: true; the input reads as it did. -/
def codeBackSpec : ChangeSpec := { name := "codeBack", fn := fun _ => fun
  | [d1, d2, d3] => { results := [.lit (.bool true)], args := [d1, d2, d3] }
  | _ => none }
def codeBackRow : OpenClaim := { program := "ytkichjejadkdgaa", sum := "de68da41d31e158a2247fbfc932573a77d65ab77fd6a7452544681a94dfa58f5", func := "stopgate/stopgatelaw13.CodeBack", spec := "codeBack", unfollowed := true, recurses := true, apart := false }
def CodeBackSaid : Prop := codeBackRow.holds Try.pinned (OpenSpec.ofChange codeBackSpec)

/-- ITS FALSE NEIGHBOUR: 'it returns false'. Refute it at one input. -/
def codeBackWrong : ChangeSpec := { name := "codeBack", fn := fun _ => fun
  | [d1, d2, d3] => { results := [.lit (.bool false)], args := [d1, d2, d3] }
  | _ => none }
def CodeBackWrongFalsely : Prop := codeBackRow.holds Try.pinned (OpenSpec.ofChange codeBackWrong)

/-- 'stopgatelaw13.CodeCells': WHATEVER THE INPUT: true; the input reads as it did. -/
def codeCellsSpec : ChangeSpec := { name := "codeCells", fn := fun _ => fun
  | [d1, d2] => { results := [.lit (.bool true)], args := [d1, d2] }
  | _ => none }
def codeCellsRow : OpenClaim := { program := "ytkichjejadkdgaa", sum := "de68da41d31e158a2247fbfc932573a77d65ab77fd6a7452544681a94dfa58f5", func := "stopgate/stopgatelaw13.CodeCells", spec := "codeCells", unfollowed := true, recurses := true, apart := false }
def CodeCellsSaid : Prop := codeCellsRow.holds Try.pinned (OpenSpec.ofChange codeCellsSpec)

/-- ITS FALSE NEIGHBOUR: 'it returns false'. Refute it at one input. -/
def codeCellsWrong : ChangeSpec := { name := "codeCells", fn := fun _ => fun
  | [d1, d2] => { results := [.lit (.bool false)], args := [d1, d2] }
  | _ => none }
def CodeCellsWrongFalsely : Prop := codeCellsRow.holds Try.pinned (OpenSpec.ofChange codeCellsWrong)

/-- 'stopgatelaw13.CodeReads': WHATEVER THE INPUT: true; the input reads as it did. -/
def codeReadsSpec : ChangeSpec := { name := "codeReads", fn := fun _ => fun
  | [d1, d2] => { results := [.lit (.bool true)], args := [d1, d2] }
  | _ => none }
def codeReadsRow : OpenClaim := { program := "ytkichjejadkdgaa", sum := "de68da41d31e158a2247fbfc932573a77d65ab77fd6a7452544681a94dfa58f5", func := "stopgate/stopgatelaw13.CodeReads", spec := "codeReads", unfollowed := true, recurses := true, apart := false }
def CodeReadsSaid : Prop := codeReadsRow.holds Try.pinned (OpenSpec.ofChange codeReadsSpec)

/-- ITS FALSE NEIGHBOUR: 'it returns false'. Refute it at one input. -/
def codeReadsWrong : ChangeSpec := { name := "codeReads", fn := fun _ => fun
  | [d1, d2] => { results := [.lit (.bool false)], args := [d1, d2] }
  | _ => none }
def CodeReadsWrongFalsely : Prop := codeReadsRow.holds Try.pinned (OpenSpec.ofChange codeReadsWrong)

/-- 'stopgatelaw13.CodeCellsBack': WHATEVER THE INPUT: true; the input reads as it did. -/
def codeCellsBackSpec : ChangeSpec := { name := "codeCellsBack", fn := fun _ => fun
  | [d1, d2, d3] => { results := [.lit (.bool true)], args := [d1, d2, d3] }
  | _ => none }
def codeCellsBackRow : OpenClaim := { program := "ytkichjejadkdgaa", sum := "de68da41d31e158a2247fbfc932573a77d65ab77fd6a7452544681a94dfa58f5", func := "stopgate/stopgatelaw13.CodeCellsBack", spec := "codeCellsBack", unfollowed := true, recurses := true, apart := false }
def CodeCellsBackSaid : Prop := codeCellsBackRow.holds Try.pinned (OpenSpec.ofChange codeCellsBackSpec)

/-- ITS FALSE NEIGHBOUR: 'it returns false'. Refute it at one input. -/
def codeCellsBackWrong : ChangeSpec := { name := "codeCellsBack", fn := fun _ => fun
  | [d1, d2, d3] => { results := [.lit (.bool false)], args := [d1, d2, d3] }
  | _ => none }
def CodeCellsBackWrongFalsely : Prop := codeCellsBackRow.holds Try.pinned (OpenSpec.ofChange codeCellsBackWrong)

/- THE SECOND FORM. 'bulk': how many values and letters a reading holds, each counted each time it is reached (what is shared counts as often as it is met; a slice's spare places count too). A statement '..UptoSaid' is the law's where the arguments, and the package variables that the reading takes, are together of bulk at most 1048576: NARROWER than '..Said'. Prove '..Said' where nothing that the law and all that it calls make is longer than what came in: it says more and counts as full. Else prove '..UptoSaid'. A law counts once. -/
mutual
def uptoBulk {H : Type} : DataW H → Nat
  | .lit (.string bytes) => bytes.length + 1
  | .lit _ => 1
  | .nil => 1
  | .ptr d => uptoBulk d + 1
  | .slice elems spare => uptoBulkAll elems + uptoBulkAll spare + 1
  | .agg parts => uptoBulkAll parts + 1
  | .iface _ d => uptoBulk d + 1
  | .map entries => uptoBulkEntries entries + 1
  | .held _ => 1
def uptoBulkAll {H : Type} : List (DataW H) → Nat
  | [] => 0
  | d :: r => uptoBulk d + uptoBulkAll r
def uptoBulkEntries {H : Type} : List (Lit × DataW H) → Nat
  | [] => 0
  | x :: r => uptoBulkEntry x + uptoBulkEntries r
def uptoBulkEntry {H : Type} : Lit × DataW H → Nat
  | (.string bytes, d) => bytes.length + uptoBulk d + 1
  | (_, d) => uptoBulk d + 1
 end
def uptoSmall : (H : Type) → List (DataW H) → Bool := fun _ ds => decide (uptoBulkAll ds ≤ 1048576)
def OpenSpec.upto (s : _root_.Go.ChangeSpec) : _root_.Go.OpenSpec := { _root_.Go.OpenSpec.ofChange s with cond := some uptoSmall }

/-- 'stopgatelaw32.StatsSpans', WHERE WHAT IT READS IS OF BULK AT MOST 1048576: true; the input reads as it did. -/
def statsSpansUptoRow : OpenClaim := { program := "ytkichjejadkdgaa", sum := "de68da41d31e158a2247fbfc932573a77d65ab77fd6a7452544681a94dfa58f5", func := "stopgate/stopgatelaw32.StatsSpans", spec := "statsSpans", apart := false, narrowed := true }
def StatsSpansUptoSaid : Prop := statsSpansUptoRow.holds Try.pinned (OpenSpec.upto statsSpansSpec)

/-- 'stopgatelaw32.StatsSums', WHERE WHAT IT READS IS OF BULK AT MOST 1048576: true; the input reads as it did. -/
def statsSumsUptoRow : OpenClaim := { program := "ytkichjejadkdgaa", sum := "de68da41d31e158a2247fbfc932573a77d65ab77fd6a7452544681a94dfa58f5", func := "stopgate/stopgatelaw32.StatsSums", spec := "statsSums", recurses := true, apart := false, narrowed := true }
def StatsSumsUptoSaid : Prop := statsSumsUptoRow.holds Try.pinned (OpenSpec.upto statsSumsSpec)

/-- 'stopgatelaw10.WaitsMoves', WHERE WHAT IT READS IS OF BULK AT MOST 1048576: true; the input reads as it did. -/
def waitsMovesUptoRow : OpenClaim := { program := "ytkichjejadkdgaa", sum := "de68da41d31e158a2247fbfc932573a77d65ab77fd6a7452544681a94dfa58f5", func := "stopgate/stopgatelaw10.WaitsMoves", spec := "waitsMoves", unfollowed := true, recurses := true, apart := false, narrowed := true }
def WaitsMovesUptoSaid : Prop := waitsMovesUptoRow.holds Try.pinned (OpenSpec.upto waitsMovesSpec)

/-- 'stopgatelaw10.WaitsUndoes', WHERE WHAT IT READS IS OF BULK AT MOST 1048576: true; the input reads as it did. -/
def waitsUndoesUptoRow : OpenClaim := { program := "ytkichjejadkdgaa", sum := "de68da41d31e158a2247fbfc932573a77d65ab77fd6a7452544681a94dfa58f5", func := "stopgate/stopgatelaw10.WaitsUndoes", spec := "waitsUndoes", unfollowed := true, recurses := true, apart := false, narrowed := true }
def WaitsUndoesUptoSaid : Prop := waitsUndoesUptoRow.holds Try.pinned (OpenSpec.upto waitsUndoesSpec)

/-- 'stopgatelaw10.WaitsFirst', WHERE WHAT IT READS IS OF BULK AT MOST 1048576: true; the input reads as it did. -/
def waitsFirstUptoRow : OpenClaim := { program := "ytkichjejadkdgaa", sum := "de68da41d31e158a2247fbfc932573a77d65ab77fd6a7452544681a94dfa58f5", func := "stopgate/stopgatelaw10.WaitsFirst", spec := "waitsFirst", unfollowed := true, recurses := true, apart := false, narrowed := true }
def WaitsFirstUptoSaid : Prop := waitsFirstUptoRow.holds Try.pinned (OpenSpec.upto waitsFirstSpec)

/-- 'stopgatelaw10.WaitsTells', WHERE WHAT IT READS IS OF BULK AT MOST 1048576: true; the input reads as it did. -/
def waitsTellsUptoRow : OpenClaim := { program := "ytkichjejadkdgaa", sum := "de68da41d31e158a2247fbfc932573a77d65ab77fd6a7452544681a94dfa58f5", func := "stopgate/stopgatelaw10.WaitsTells", spec := "waitsTells", unfollowed := true, recurses := true, apart := false, narrowed := true }
def WaitsTellsUptoSaid : Prop := waitsTellsUptoRow.holds Try.pinned (OpenSpec.upto waitsTellsSpec)

/-- 'stopgatelaw11.ChansDo', WHERE WHAT IT READS IS OF BULK AT MOST 1048576: true; the input reads as it did. -/
def chansDoUptoRow : OpenClaim := { program := "ytkichjejadkdgaa", sum := "de68da41d31e158a2247fbfc932573a77d65ab77fd6a7452544681a94dfa58f5", func := "stopgate/stopgatelaw11.ChansDo", spec := "chansDo", unfollowed := true, recurses := true, apart := false, narrowed := true }
def ChansDoUptoSaid : Prop := chansDoUptoRow.holds Try.pinned (OpenSpec.upto chansDoSpec)

/-- 'stopgatelaw11.ChansOne', WHERE WHAT IT READS IS OF BULK AT MOST 1048576: true; the input reads as it did. -/
def chansOneUptoRow : OpenClaim := { program := "ytkichjejadkdgaa", sum := "de68da41d31e158a2247fbfc932573a77d65ab77fd6a7452544681a94dfa58f5", func := "stopgate/stopgatelaw11.ChansOne", spec := "chansOne", unfollowed := true, recurses := true, apart := false, narrowed := true }
def ChansOneUptoSaid : Prop := chansOneUptoRow.holds Try.pinned (OpenSpec.upto chansOneSpec)

/-- 'stopgatelaw11.ChansAfter', WHERE WHAT IT READS IS OF BULK AT MOST 1048576: true; the input reads as it did. -/
def chansAfterUptoRow : OpenClaim := { program := "ytkichjejadkdgaa", sum := "de68da41d31e158a2247fbfc932573a77d65ab77fd6a7452544681a94dfa58f5", func := "stopgate/stopgatelaw11.ChansAfter", spec := "chansAfter", unfollowed := true, recurses := true, apart := false, narrowed := true }
def ChansAfterUptoSaid : Prop := chansAfterUptoRow.holds Try.pinned (OpenSpec.upto chansAfterSpec)

/-- 'stopgatelaw13.CodeShapes', WHERE WHAT IT READS IS OF BULK AT MOST 1048576: true; the input reads as it did. -/
def codeShapesUptoRow : OpenClaim := { program := "ytkichjejadkdgaa", sum := "de68da41d31e158a2247fbfc932573a77d65ab77fd6a7452544681a94dfa58f5", func := "stopgate/stopgatelaw13.CodeShapes", spec := "codeShapes", unfollowed := true, recurses := true, apart := false, narrowed := true }
def CodeShapesUptoSaid : Prop := codeShapesUptoRow.holds Try.pinned (OpenSpec.upto codeShapesSpec)

/-- 'stopgatelaw13.CodeHalls', WHERE WHAT IT READS IS OF BULK AT MOST 1048576: true; the input reads as it did. -/
def codeHallsUptoRow : OpenClaim := { program := "ytkichjejadkdgaa", sum := "de68da41d31e158a2247fbfc932573a77d65ab77fd6a7452544681a94dfa58f5", func := "stopgate/stopgatelaw13.CodeHalls", spec := "codeHalls", unfollowed := true, recurses := true, apart := false, narrowed := true }
def CodeHallsUptoSaid : Prop := codeHallsUptoRow.holds Try.pinned (OpenSpec.upto codeHallsSpec)

/-- 'stopgatelaw13.CodeBack', WHERE WHAT IT READS IS OF BULK AT MOST 1048576: true; the input reads as it did. -/
def codeBackUptoRow : OpenClaim := { program := "ytkichjejadkdgaa", sum := "de68da41d31e158a2247fbfc932573a77d65ab77fd6a7452544681a94dfa58f5", func := "stopgate/stopgatelaw13.CodeBack", spec := "codeBack", unfollowed := true, recurses := true, apart := false, narrowed := true }
def CodeBackUptoSaid : Prop := codeBackUptoRow.holds Try.pinned (OpenSpec.upto codeBackSpec)

/-- 'stopgatelaw13.CodeCells', WHERE WHAT IT READS IS OF BULK AT MOST 1048576: true; the input reads as it did. -/
def codeCellsUptoRow : OpenClaim := { program := "ytkichjejadkdgaa", sum := "de68da41d31e158a2247fbfc932573a77d65ab77fd6a7452544681a94dfa58f5", func := "stopgate/stopgatelaw13.CodeCells", spec := "codeCells", unfollowed := true, recurses := true, apart := false, narrowed := true }
def CodeCellsUptoSaid : Prop := codeCellsUptoRow.holds Try.pinned (OpenSpec.upto codeCellsSpec)

/-- 'stopgatelaw13.CodeReads', WHERE WHAT IT READS IS OF BULK AT MOST 1048576: true; the input reads as it did. -/
def codeReadsUptoRow : OpenClaim := { program := "ytkichjejadkdgaa", sum := "de68da41d31e158a2247fbfc932573a77d65ab77fd6a7452544681a94dfa58f5", func := "stopgate/stopgatelaw13.CodeReads", spec := "codeReads", unfollowed := true, recurses := true, apart := false, narrowed := true }
def CodeReadsUptoSaid : Prop := codeReadsUptoRow.holds Try.pinned (OpenSpec.upto codeReadsSpec)

/-- 'stopgatelaw13.CodeCellsBack', WHERE WHAT IT READS IS OF BULK AT MOST 1048576: true; the input reads as it did. -/
def codeCellsBackUptoRow : OpenClaim := { program := "ytkichjejadkdgaa", sum := "de68da41d31e158a2247fbfc932573a77d65ab77fd6a7452544681a94dfa58f5", func := "stopgate/stopgatelaw13.CodeCellsBack", spec := "codeCellsBack", unfollowed := true, recurses := true, apart := false, narrowed := true }
def CodeCellsBackUptoSaid : Prop := codeCellsBackUptoRow.holds Try.pinned (OpenSpec.upto codeCellsBackSpec)

end Rows
end Go.Proofs.Ytkichjejadkdgaa
