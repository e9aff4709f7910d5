/-
  No cell of these rows narrows 'for every input' (looked for: loops, veiled, ifaces, maps, wideKeys, modest, calm, conditions, laid).
  DERIVED. THE GIVEN ROWS OF THIS SEAT. 4 by the template 'for every input the law returns true; each argument reads behind the call as it read before'; 0 by the template 'total and deterministic' (their statements: YtnfbggpkiekpdaaTotals.lean).
  GIVEN WITH THE SEED: the statements are not yours to turn. If you find one false, say at which input.
  Laid BY PROGRAM, IN A SANDBOX (cutbox-rows.mjs): the forced cells as the released guide's own fill.sh prints them over the translation 59de507f5a39a8d3… (all of the seat's roots in one cut). By AI agents, Wed Nov 11 2026. No macro, syntax, notation, axiom, sorry.
-/
import Derived.Test.YtnfbggpkiekpdaaChecked
import GoSem.Claim
import GoSem.ClaimJoined
import GoSem.ClaimMapViews
import Derived.JoinedTies
import Derived.KernelRfl
namespace Go.Proofs.Ytnfbggpkiekpdaa
/- THE CELL 'sum', in the pinned program and in every row, IS THE sha256 OF THE DUMP (.gsa) THAT YtnfbggpkiekpdaaProg.lean LOADS. Nothing in Lean hashes anything: it is a label: what it is worth is what the hold of that sum in a sandbox is worth. -/
noncomputable def Try.pinned : Pinned := { name := "ytnfbggpkiekpdaa", sum := "59de507f5a39a8d3b2b442066cf8f515a6f4ae9c50dcf5ae51c0a0c2e80f8ada", checked := Try.checked }
namespace Rows
def none {H : Type} : Left H := { results := [], args := [] }

/-- 'stopgatelaw31.InspectThreads': WHATEVER THE INPUT: true; the input reads as it did. -/
def inspectThreadsSpec : ChangeSpec := { name := "inspectThreads", fn := fun _ => fun
  | [d1, d2] => { results := [.lit (.bool true)], args := [d1, d2] }
  | _ => none }
def inspectThreadsRow : OpenClaim := { program := "ytnfbggpkiekpdaa", sum := "59de507f5a39a8d3b2b442066cf8f515a6f4ae9c50dcf5ae51c0a0c2e80f8ada", func := "stopgate/stopgatelaw31.InspectThreads", spec := "inspectThreads", unfollowed := true, recurses := true, apart := false }
def InspectThreadsSaid : Prop := inspectThreadsRow.holds Try.pinned (OpenSpec.ofChange inspectThreadsSpec)

/-- ITS FALSE NEIGHBOUR: 'it returns false'. Refute it at one input. -/
def inspectThreadsWrong : ChangeSpec := { name := "inspectThreads", fn := fun _ => fun
  | [d1, d2] => { results := [.lit (.bool false)], args := [d1, d2] }
  | _ => none }
def InspectThreadsWrongFalsely : Prop := inspectThreadsRow.holds Try.pinned (OpenSpec.ofChange inspectThreadsWrong)

/-- 'stopgatelaw15.LayoutTells': WHATEVER THE INPUT: true; the input reads as it did. -/
def layoutTellsSpec : ChangeSpec := { name := "layoutTells", fn := fun _ => fun
  | [d1, d2, d3, d4] => { results := [.lit (.bool true)], args := [d1, d2, d3, d4] }
  | _ => none }
def layoutTellsRow : OpenClaim := { program := "ytnfbggpkiekpdaa", sum := "59de507f5a39a8d3b2b442066cf8f515a6f4ae9c50dcf5ae51c0a0c2e80f8ada", func := "stopgate/stopgatelaw15.LayoutTells", spec := "layoutTells", unfollowed := true, recurses := true, apart := false }
def LayoutTellsSaid : Prop := layoutTellsRow.holds Try.pinned (OpenSpec.ofChange layoutTellsSpec)

/-- ITS FALSE NEIGHBOUR: 'it returns false'. Refute it at one input. -/
def layoutTellsWrong : ChangeSpec := { name := "layoutTells", fn := fun _ => fun
  | [d1, d2, d3, d4] => { results := [.lit (.bool false)], args := [d1, d2, d3, d4] }
  | _ => none }
def LayoutTellsWrongFalsely : Prop := layoutTellsRow.holds Try.pinned (OpenSpec.ofChange layoutTellsWrong)

/-- 'stopgatelaw15.LayoutOnce': WHATEVER THE INPUT: true; the input reads as it did. -/
def layoutOnceSpec : ChangeSpec := { name := "layoutOnce", fn := fun _ => fun
  | [d1, d2] => { results := [.lit (.bool true)], args := [d1, d2] }
  | _ => none }
def layoutOnceRow : OpenClaim := { program := "ytnfbggpkiekpdaa", sum := "59de507f5a39a8d3b2b442066cf8f515a6f4ae9c50dcf5ae51c0a0c2e80f8ada", func := "stopgate/stopgatelaw15.LayoutOnce", spec := "layoutOnce", unfollowed := true, recurses := true, apart := false }
def LayoutOnceSaid : Prop := layoutOnceRow.holds Try.pinned (OpenSpec.ofChange layoutOnceSpec)

/-- ITS FALSE NEIGHBOUR: 'it returns false'. Refute it at one input. -/
def layoutOnceWrong : ChangeSpec := { name := "layoutOnce", fn := fun _ => fun
  | [d1, d2] => { results := [.lit (.bool false)], args := [d1, d2] }
  | _ => none }
def LayoutOnceWrongFalsely : Prop := layoutOnceRow.holds Try.pinned (OpenSpec.ofChange layoutOnceWrong)

/-- 'stopgatelaw15.LayoutSetup': WHATEVER THE INPUT: true; the input reads as it did. -/
def layoutSetupSpec : ChangeSpec := { name := "layoutSetup", fn := fun _ => fun
  | [d1, d2] => { results := [.lit (.bool true)], args := [d1, d2] }
  | _ => none }
def layoutSetupRow : OpenClaim := { program := "ytnfbggpkiekpdaa", sum := "59de507f5a39a8d3b2b442066cf8f515a6f4ae9c50dcf5ae51c0a0c2e80f8ada", func := "stopgate/stopgatelaw15.LayoutSetup", spec := "layoutSetup", unfollowed := true, recurses := true, apart := false }
def LayoutSetupSaid : Prop := layoutSetupRow.holds Try.pinned (OpenSpec.ofChange layoutSetupSpec)

/-- ITS FALSE NEIGHBOUR: 'it returns false'. Refute it at one input. -/
def layoutSetupWrong : ChangeSpec := { name := "layoutSetup", fn := fun _ => fun
  | [d1, d2] => { results := [.lit (.bool false)], args := [d1, d2] }
  | _ => none }
def LayoutSetupWrongFalsely : Prop := layoutSetupRow.holds Try.pinned (OpenSpec.ofChange layoutSetupWrong)

/- THE SECOND FORM. 'bulk': how many values and letters a reading holds, each counted each time it is reached (what is shared counts as often as it is met; a slice's spare places count too). A statement '..UptoSaid' is the law's where the arguments, and the package variables that the reading takes, are together of bulk at most 1048576: NARROWER than '..Said'. Prove '..Said' where nothing that the law and all that it calls make is longer than what came in: it says more and counts as full. Else prove '..UptoSaid'. A law counts once. -/
mutual
def uptoBulk {H : Type} : DataW H → Nat
  | .lit (.string bytes) => bytes.length + 1
  | .lit _ => 1
  | .nil => 1
  | .ptr d => uptoBulk d + 1
  | .slice elems spare => uptoBulkAll elems + uptoBulkAll spare + 1
  | .agg parts => uptoBulkAll parts + 1
  | .iface _ d => uptoBulk d + 1
  | .map entries => uptoBulkEntries entries + 1
  | .held _ => 1
def uptoBulkAll {H : Type} : List (DataW H) → Nat
  | [] => 0
  | d :: r => uptoBulk d + uptoBulkAll r
def uptoBulkEntries {H : Type} : List (Lit × DataW H) → Nat
  | [] => 0
  | x :: r => uptoBulkEntry x + uptoBulkEntries r
def uptoBulkEntry {H : Type} : Lit × DataW H → Nat
  | (.string bytes, d) => bytes.length + uptoBulk d + 1
  | (_, d) => uptoBulk d + 1
 end
def uptoSmall : (H : Type) → List (DataW H) → Bool := fun _ ds => decide (uptoBulkAll ds ≤ 1048576)
def OpenSpec.upto (s : _root_.Go.ChangeSpec) : _root_.Go.OpenSpec := { _root_.Go.OpenSpec.ofChange s with cond := some uptoSmall }

/-- 'stopgatelaw31.InspectThreads', WHERE WHAT IT READS IS OF BULK AT MOST 1048576: true; the input reads as it did. -/
def inspectThreadsUptoRow : OpenClaim := { program := "ytnfbggpkiekpdaa", sum := "59de507f5a39a8d3b2b442066cf8f515a6f4ae9c50dcf5ae51c0a0c2e80f8ada", func := "stopgate/stopgatelaw31.InspectThreads", spec := "inspectThreads", unfollowed := true, recurses := true, apart := false, narrowed := true }
def InspectThreadsUptoSaid : Prop := inspectThreadsUptoRow.holds Try.pinned (OpenSpec.upto inspectThreadsSpec)

/-- 'stopgatelaw15.LayoutTells', WHERE WHAT IT READS IS OF BULK AT MOST 1048576: true; the input reads as it did. -/
def layoutTellsUptoRow : OpenClaim := { program := "ytnfbggpkiekpdaa", sum := "59de507f5a39a8d3b2b442066cf8f515a6f4ae9c50dcf5ae51c0a0c2e80f8ada", func := "stopgate/stopgatelaw15.LayoutTells", spec := "layoutTells", unfollowed := true, recurses := true, apart := false, narrowed := true }
def LayoutTellsUptoSaid : Prop := layoutTellsUptoRow.holds Try.pinned (OpenSpec.upto layoutTellsSpec)

/-- 'stopgatelaw15.LayoutOnce', WHERE WHAT IT READS IS OF BULK AT MOST 1048576: true; the input reads as it did. -/
def layoutOnceUptoRow : OpenClaim := { program := "ytnfbggpkiekpdaa", sum := "59de507f5a39a8d3b2b442066cf8f515a6f4ae9c50dcf5ae51c0a0c2e80f8ada", func := "stopgate/stopgatelaw15.LayoutOnce", spec := "layoutOnce", unfollowed := true, recurses := true, apart := false, narrowed := true }
def LayoutOnceUptoSaid : Prop := layoutOnceUptoRow.holds Try.pinned (OpenSpec.upto layoutOnceSpec)

/-- 'stopgatelaw15.LayoutSetup', WHERE WHAT IT READS IS OF BULK AT MOST 1048576: true; the input reads as it did. -/
def layoutSetupUptoRow : OpenClaim := { program := "ytnfbggpkiekpdaa", sum := "59de507f5a39a8d3b2b442066cf8f515a6f4ae9c50dcf5ae51c0a0c2e80f8ada", func := "stopgate/stopgatelaw15.LayoutSetup", spec := "layoutSetup", unfollowed := true, recurses := true, apart := false, narrowed := true }
def LayoutSetupUptoSaid : Prop := layoutSetupUptoRow.holds Try.pinned (OpenSpec.upto layoutSetupSpec)

end Rows
end Go.Proofs.Ytnfbggpkiekpdaa
