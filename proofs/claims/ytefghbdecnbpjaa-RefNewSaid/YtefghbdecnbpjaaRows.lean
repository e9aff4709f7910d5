/-
  No cell of these rows narrows 'for every input' (looked for: loops, veiled, ifaces, maps, wideKeys, modest, calm, conditions, laid).
  DERIVED. THE GIVEN ROWS OF THIS SEAT. 6 by the template 'for every input the law returns true; each argument reads behind the call as it read before'; 0 by the template 'total and deterministic' (their statements: YtefghbdecnbpjaaTotals.lean).
  GIVEN WITH THE SEED: the statements are not yours to turn. If you find one false, say at which input.
  Laid BY PROGRAM, IN A SANDBOX (cutbox-rows.mjs): the forced cells as the released guide's own fill.sh prints them over the translation d38a6806174b16c9… (all of the seat's roots in one cut). By AI agents, Wed Nov 11 2026. No macro, syntax, notation, axiom, sorry.
-/
import Derived.Test.YtefghbdecnbpjaaChecked
import GoSem.Claim
import GoSem.ClaimJoined
import GoSem.ClaimMapViews
import Derived.JoinedTies
import Derived.KernelRfl
namespace Go.Proofs.Ytefghbdecnbpjaa
/- THE CELL 'sum', in the pinned program and in every row, IS THE sha256 OF THE DUMP (.gsa) THAT YtefghbdecnbpjaaProg.lean LOADS. Nothing in Lean hashes anything: it is a label: what it is worth is what the hold of that sum in a sandbox is worth. -/
noncomputable def Try.pinned : Pinned := { name := "ytefghbdecnbpjaa", sum := "d38a6806174b16c99ec060220160d522b86d636c3d6678300caec88c6968eb6c", checked := Try.checked }
namespace Rows
def none {H : Type} : Left H := { results := [], args := [] }

/-- 'stopgatelaw01.RefWords': WHATEVER THE INPUT: true; the input reads as it did. -/
def refWordsSpec : ChangeSpec := { name := "refWords", fn := fun _ => fun
  | [d1, d2] => { results := [.lit (.bool true)], args := [d1, d2] }
  | _ => none }
def refWordsRow : OpenClaim := { program := "ytefghbdecnbpjaa", sum := "d38a6806174b16c99ec060220160d522b86d636c3d6678300caec88c6968eb6c", func := "stopgate/stopgatelaw01.RefWords", spec := "refWords", apart := false }
def RefWordsSaid : Prop := refWordsRow.holds Try.pinned (OpenSpec.ofChange refWordsSpec)

/-- ITS FALSE NEIGHBOUR: 'it returns false'. Refute it at one input. -/
def refWordsWrong : ChangeSpec := { name := "refWords", fn := fun _ => fun
  | [d1, d2] => { results := [.lit (.bool false)], args := [d1, d2] }
  | _ => none }
def RefWordsWrongFalsely : Prop := refWordsRow.holds Try.pinned (OpenSpec.ofChange refWordsWrong)

/-- 'stopgatelaw01.RefBack': WHATEVER THE INPUT: true; the input reads as it did. -/
def refBackSpec : ChangeSpec := { name := "refBack", fn := fun _ => fun
  | [d1, d2] => { results := [.lit (.bool true)], args := [d1, d2] }
  | _ => none }
def refBackRow : OpenClaim := { program := "ytefghbdecnbpjaa", sum := "d38a6806174b16c99ec060220160d522b86d636c3d6678300caec88c6968eb6c", func := "stopgate/stopgatelaw01.RefBack", spec := "refBack", apart := false }
def RefBackSaid : Prop := refBackRow.holds Try.pinned (OpenSpec.ofChange refBackSpec)

/-- ITS FALSE NEIGHBOUR: 'it returns false'. Refute it at one input. -/
def refBackWrong : ChangeSpec := { name := "refBack", fn := fun _ => fun
  | [d1, d2] => { results := [.lit (.bool false)], args := [d1, d2] }
  | _ => none }
def RefBackWrongFalsely : Prop := refBackRow.holds Try.pinned (OpenSpec.ofChange refBackWrong)

/-- 'stopgatelaw01.RefNew': WHATEVER THE INPUT: true; the input reads as it did. -/
def refNewSpec : ChangeSpec := { name := "refNew", fn := fun _ => fun
  | [d1, d2] => { results := [.lit (.bool true)], args := [d1, d2] }
  | _ => none }
def refNewRow : OpenClaim := { program := "ytefghbdecnbpjaa", sum := "d38a6806174b16c99ec060220160d522b86d636c3d6678300caec88c6968eb6c", func := "stopgate/stopgatelaw01.RefNew", spec := "refNew", apart := false }
def RefNewSaid : Prop := refNewRow.holds Try.pinned (OpenSpec.ofChange refNewSpec)

/-- ITS FALSE NEIGHBOUR: 'it returns false'. Refute it at one input. -/
def refNewWrong : ChangeSpec := { name := "refNew", fn := fun _ => fun
  | [d1, d2] => { results := [.lit (.bool false)], args := [d1, d2] }
  | _ => none }
def RefNewWrongFalsely : Prop := refNewRow.holds Try.pinned (OpenSpec.ofChange refNewWrong)

/-- 'stopgatelaw01.RefNext': WHATEVER THE INPUT: true; the input reads as it did. -/
def refNextSpec : ChangeSpec := { name := "refNext", fn := fun _ => fun
  | [d1, d2, d3] => { results := [.lit (.bool true)], args := [d1, d2, d3] }
  | _ => none }
def refNextRow : OpenClaim := { program := "ytefghbdecnbpjaa", sum := "d38a6806174b16c99ec060220160d522b86d636c3d6678300caec88c6968eb6c", func := "stopgate/stopgatelaw01.RefNext", spec := "refNext", apart := false }
def RefNextSaid : Prop := refNextRow.holds Try.pinned (OpenSpec.ofChange refNextSpec)

/-- ITS FALSE NEIGHBOUR: 'it returns false'. Refute it at one input. -/
def refNextWrong : ChangeSpec := { name := "refNext", fn := fun _ => fun
  | [d1, d2, d3] => { results := [.lit (.bool false)], args := [d1, d2, d3] }
  | _ => none }
def RefNextWrongFalsely : Prop := refNextRow.holds Try.pinned (OpenSpec.ofChange refNextWrong)

/-- 'stopgatelaw01.RefLess': WHATEVER THE INPUT: true; the input reads as it did. -/
def refLessSpec : ChangeSpec := { name := "refLess", fn := fun _ => fun
  | [d1, d2, d3] => { results := [.lit (.bool true)], args := [d1, d2, d3] }
  | _ => none }
def refLessRow : OpenClaim := { program := "ytefghbdecnbpjaa", sum := "d38a6806174b16c99ec060220160d522b86d636c3d6678300caec88c6968eb6c", func := "stopgate/stopgatelaw01.RefLess", spec := "refLess", apart := false }
def RefLessSaid : Prop := refLessRow.holds Try.pinned (OpenSpec.ofChange refLessSpec)

/-- ITS FALSE NEIGHBOUR: 'it returns false'. Refute it at one input. -/
def refLessWrong : ChangeSpec := { name := "refLess", fn := fun _ => fun
  | [d1, d2, d3] => { results := [.lit (.bool false)], args := [d1, d2, d3] }
  | _ => none }
def RefLessWrongFalsely : Prop := refLessRow.holds Try.pinned (OpenSpec.ofChange refLessWrong)

/-- 'stopgatelaw01.RefHandles': WHATEVER THE INPUT: true; the input reads as it did. -/
def refHandlesSpec : ChangeSpec := { name := "refHandles", fn := fun _ => fun
  | [d1, d2, d3] => { results := [.lit (.bool true)], args := [d1, d2, d3] }
  | _ => none }
def refHandlesRow : OpenClaim := { program := "ytefghbdecnbpjaa", sum := "d38a6806174b16c99ec060220160d522b86d636c3d6678300caec88c6968eb6c", func := "stopgate/stopgatelaw01.RefHandles", spec := "refHandles", apart := false }
def RefHandlesSaid : Prop := refHandlesRow.holds Try.pinned (OpenSpec.ofChange refHandlesSpec)

/-- ITS FALSE NEIGHBOUR: 'it returns false'. Refute it at one input. -/
def refHandlesWrong : ChangeSpec := { name := "refHandles", fn := fun _ => fun
  | [d1, d2, d3] => { results := [.lit (.bool false)], args := [d1, d2, d3] }
  | _ => none }
def RefHandlesWrongFalsely : Prop := refHandlesRow.holds Try.pinned (OpenSpec.ofChange refHandlesWrong)

/- THE SECOND FORM. 'bulk': how many values and letters a reading holds, each counted each time it is reached (what is shared counts as often as it is met; a slice's spare places count too). A statement '..UptoSaid' is the law's where the arguments, and the package variables that the reading takes, are together of bulk at most 1048576: NARROWER than '..Said'. Prove '..Said' where nothing that the law and all that it calls make is longer than what came in: it says more and counts as full. Else prove '..UptoSaid'. A law counts once. -/
mutual
def uptoBulk {H : Type} : DataW H → Nat
  | .lit (.string bytes) => bytes.length + 1
  | .lit _ => 1
  | .nil => 1
  | .ptr d => uptoBulk d + 1
  | .slice elems spare => uptoBulkAll elems + uptoBulkAll spare + 1
  | .agg parts => uptoBulkAll parts + 1
  | .iface _ d => uptoBulk d + 1
  | .map entries => uptoBulkEntries entries + 1
  | .held _ => 1
def uptoBulkAll {H : Type} : List (DataW H) → Nat
  | [] => 0
  | d :: r => uptoBulk d + uptoBulkAll r
def uptoBulkEntries {H : Type} : List (Lit × DataW H) → Nat
  | [] => 0
  | x :: r => uptoBulkEntry x + uptoBulkEntries r
def uptoBulkEntry {H : Type} : Lit × DataW H → Nat
  | (.string bytes, d) => bytes.length + uptoBulk d + 1
  | (_, d) => uptoBulk d + 1
 end
def uptoSmall : (H : Type) → List (DataW H) → Bool := fun _ ds => decide (uptoBulkAll ds ≤ 1048576)
def OpenSpec.upto (s : _root_.Go.ChangeSpec) : _root_.Go.OpenSpec := { _root_.Go.OpenSpec.ofChange s with cond := some uptoSmall }

/-- 'stopgatelaw01.RefWords', WHERE WHAT IT READS IS OF BULK AT MOST 1048576: true; the input reads as it did. -/
def refWordsUptoRow : OpenClaim := { program := "ytefghbdecnbpjaa", sum := "d38a6806174b16c99ec060220160d522b86d636c3d6678300caec88c6968eb6c", func := "stopgate/stopgatelaw01.RefWords", spec := "refWords", apart := false, narrowed := true }
def RefWordsUptoSaid : Prop := refWordsUptoRow.holds Try.pinned (OpenSpec.upto refWordsSpec)

/-- 'stopgatelaw01.RefBack', WHERE WHAT IT READS IS OF BULK AT MOST 1048576: true; the input reads as it did. -/
def refBackUptoRow : OpenClaim := { program := "ytefghbdecnbpjaa", sum := "d38a6806174b16c99ec060220160d522b86d636c3d6678300caec88c6968eb6c", func := "stopgate/stopgatelaw01.RefBack", spec := "refBack", apart := false, narrowed := true }
def RefBackUptoSaid : Prop := refBackUptoRow.holds Try.pinned (OpenSpec.upto refBackSpec)

/-- 'stopgatelaw01.RefNew', WHERE WHAT IT READS IS OF BULK AT MOST 1048576: true; the input reads as it did. -/
def refNewUptoRow : OpenClaim := { program := "ytefghbdecnbpjaa", sum := "d38a6806174b16c99ec060220160d522b86d636c3d6678300caec88c6968eb6c", func := "stopgate/stopgatelaw01.RefNew", spec := "refNew", apart := false, narrowed := true }
def RefNewUptoSaid : Prop := refNewUptoRow.holds Try.pinned (OpenSpec.upto refNewSpec)

/-- 'stopgatelaw01.RefNext', WHERE WHAT IT READS IS OF BULK AT MOST 1048576: true; the input reads as it did. -/
def refNextUptoRow : OpenClaim := { program := "ytefghbdecnbpjaa", sum := "d38a6806174b16c99ec060220160d522b86d636c3d6678300caec88c6968eb6c", func := "stopgate/stopgatelaw01.RefNext", spec := "refNext", apart := false, narrowed := true }
def RefNextUptoSaid : Prop := refNextUptoRow.holds Try.pinned (OpenSpec.upto refNextSpec)

/-- 'stopgatelaw01.RefLess', WHERE WHAT IT READS IS OF BULK AT MOST 1048576: true; the input reads as it did. -/
def refLessUptoRow : OpenClaim := { program := "ytefghbdecnbpjaa", sum := "d38a6806174b16c99ec060220160d522b86d636c3d6678300caec88c6968eb6c", func := "stopgate/stopgatelaw01.RefLess", spec := "refLess", apart := false, narrowed := true }
def RefLessUptoSaid : Prop := refLessUptoRow.holds Try.pinned (OpenSpec.upto refLessSpec)

/-- 'stopgatelaw01.RefHandles', WHERE WHAT IT READS IS OF BULK AT MOST 1048576: true; the input reads as it did. -/
def refHandlesUptoRow : OpenClaim := { program := "ytefghbdecnbpjaa", sum := "d38a6806174b16c99ec060220160d522b86d636c3d6678300caec88c6968eb6c", func := "stopgate/stopgatelaw01.RefHandles", spec := "refHandles", apart := false, narrowed := true }
def RefHandlesUptoSaid : Prop := refHandlesUptoRow.holds Try.pinned (OpenSpec.upto refHandlesSpec)

end Rows
end Go.Proofs.Ytefghbdecnbpjaa
