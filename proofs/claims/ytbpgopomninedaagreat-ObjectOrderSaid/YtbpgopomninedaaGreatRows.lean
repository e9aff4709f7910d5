/-
  No cell of these rows narrows 'for every input' (looked for: loops, veiled, ifaces, maps, wideKeys, modest, calm, conditions, laid).
  DERIVED. THE GIVEN ROWS OF THIS SEAT. 3 by the template 'for every input the law returns true; each argument reads behind the call as it read before'; 0 by the template 'total and deterministic' (their statements: YtbpgopomninedaaGreatTotals.lean).
  GIVEN WITH THE SEED: the statements are not yours to turn. If you find one false, say at which input.
  Laid BY PROGRAM, IN A SANDBOX (cutbox-rows.mjs): the forced cells as the released guide's own fill.sh prints them over the translation dc1942fadd9f8de3… (all of the seat's roots in one cut). By AI agents, Wed Nov 11 2026. No macro, syntax, notation, axiom, sorry.
-/
import Derived.Test.YtbpgopomninedaaGreatChecked
import GoSem.Claim
import GoSem.ClaimJoined
import GoSem.ClaimMapViews
import Derived.JoinedTies
import Derived.KernelRfl
namespace Go.Proofs.YtbpgopomninedaaGreat
/- THE CELL 'sum', in the pinned program and in every row, IS THE sha256 OF THE DUMP (.gsa) THAT YtbpgopomninedaaGreatProg.lean LOADS. Nothing in Lean hashes anything: it is a label: what it is worth is what the hold of that sum in a sandbox is worth. -/
noncomputable def Tryz.pinned : Pinned := { name := "ytbpgopomninedaagreat", sum := "dc1942fadd9f8de350698c0d906710e21897d7d5476a32c4e41d13da84aafe50", checked := Tryz.checked }
namespace Rows
def none {H : Type} : Left H := { results := [], args := [] }

/-- 'stopgatelaw14.ObjectApplies': WHATEVER THE INPUT: true; the input reads as it did. -/
def objectAppliesSpec : ChangeSpec := { name := "objectApplies", fn := fun _ => fun
  | [d1, d2, d3, d4, d5] => { results := [.lit (.bool true)], args := [d1, d2, d3, d4, d5] }
  | _ => none }
def objectAppliesRow : OpenClaim := { program := "ytbpgopomninedaagreat", sum := "dc1942fadd9f8de350698c0d906710e21897d7d5476a32c4e41d13da84aafe50", func := "stopgate/stopgatelaw14.ObjectApplies", spec := "objectApplies", unfollowed := true, recurses := true, apart := false }
def ObjectAppliesSaid : Prop := objectAppliesRow.holds Tryz.pinned (OpenSpec.ofChange objectAppliesSpec)

/-- ITS FALSE NEIGHBOUR: 'it returns false'. Refute it at one input. -/
def objectAppliesWrong : ChangeSpec := { name := "objectApplies", fn := fun _ => fun
  | [d1, d2, d3, d4, d5] => { results := [.lit (.bool false)], args := [d1, d2, d3, d4, d5] }
  | _ => none }
def ObjectAppliesWrongFalsely : Prop := objectAppliesRow.holds Tryz.pinned (OpenSpec.ofChange objectAppliesWrong)

/-- 'stopgatelaw14.ObjectStays': WHATEVER THE INPUT: true; the input reads as it did. -/
def objectStaysSpec : ChangeSpec := { name := "objectStays", fn := fun _ => fun
  | [d1, d2] => { results := [.lit (.bool true)], args := [d1, d2] }
  | _ => none }
def objectStaysRow : OpenClaim := { program := "ytbpgopomninedaagreat", sum := "dc1942fadd9f8de350698c0d906710e21897d7d5476a32c4e41d13da84aafe50", func := "stopgate/stopgatelaw14.ObjectStays", spec := "objectStays", unfollowed := true, recurses := true, apart := false }
def ObjectStaysSaid : Prop := objectStaysRow.holds Tryz.pinned (OpenSpec.ofChange objectStaysSpec)

/-- ITS FALSE NEIGHBOUR: 'it returns false'. Refute it at one input. -/
def objectStaysWrong : ChangeSpec := { name := "objectStays", fn := fun _ => fun
  | [d1, d2] => { results := [.lit (.bool false)], args := [d1, d2] }
  | _ => none }
def ObjectStaysWrongFalsely : Prop := objectStaysRow.holds Tryz.pinned (OpenSpec.ofChange objectStaysWrong)

/-- 'stopgatelaw14.ObjectOrder': WHATEVER THE INPUT: true; the input reads as it did. -/
def objectOrderSpec : ChangeSpec := { name := "objectOrder", fn := fun _ => fun
  | [d1, d2, d3] => { results := [.lit (.bool true)], args := [d1, d2, d3] }
  | _ => none }
def objectOrderRow : OpenClaim := { program := "ytbpgopomninedaagreat", sum := "dc1942fadd9f8de350698c0d906710e21897d7d5476a32c4e41d13da84aafe50", func := "stopgate/stopgatelaw14.ObjectOrder", spec := "objectOrder", unfollowed := true, recurses := true, apart := false }
def ObjectOrderSaid : Prop := objectOrderRow.holds Tryz.pinned (OpenSpec.ofChange objectOrderSpec)

/-- ITS FALSE NEIGHBOUR: 'it returns false'. Refute it at one input. -/
def objectOrderWrong : ChangeSpec := { name := "objectOrder", fn := fun _ => fun
  | [d1, d2, d3] => { results := [.lit (.bool false)], args := [d1, d2, d3] }
  | _ => none }
def ObjectOrderWrongFalsely : Prop := objectOrderRow.holds Tryz.pinned (OpenSpec.ofChange objectOrderWrong)

/- THE SECOND FORM. 'bulk': how many values and letters a reading holds, each counted each time it is reached (what is shared counts as often as it is met; a slice's spare places count too). A statement '..UptoSaid' is the law's where the arguments, and the package variables that the reading takes, are together of bulk at most 1048576: NARROWER than '..Said'. Prove '..Said' where nothing that the law and all that it calls make is longer than what came in: it says more and counts as full. Else prove '..UptoSaid'. A law counts once. -/
mutual
def uptoBulk {H : Type} : DataW H → Nat
  | .lit (.string bytes) => bytes.length + 1
  | .lit _ => 1
  | .nil => 1
  | .ptr d => uptoBulk d + 1
  | .slice elems spare => uptoBulkAll elems + uptoBulkAll spare + 1
  | .agg parts => uptoBulkAll parts + 1
  | .iface _ d => uptoBulk d + 1
  | .map entries => uptoBulkEntries entries + 1
  | .held _ => 1
def uptoBulkAll {H : Type} : List (DataW H) → Nat
  | [] => 0
  | d :: r => uptoBulk d + uptoBulkAll r
def uptoBulkEntries {H : Type} : List (Lit × DataW H) → Nat
  | [] => 0
  | x :: r => uptoBulkEntry x + uptoBulkEntries r
def uptoBulkEntry {H : Type} : Lit × DataW H → Nat
  | (.string bytes, d) => bytes.length + uptoBulk d + 1
  | (_, d) => uptoBulk d + 1
 end
def uptoSmall : (H : Type) → List (DataW H) → Bool := fun _ ds => decide (uptoBulkAll ds ≤ 1048576)
def OpenSpec.upto (s : _root_.Go.ChangeSpec) : _root_.Go.OpenSpec := { _root_.Go.OpenSpec.ofChange s with cond := some uptoSmall }

/-- 'stopgatelaw14.ObjectApplies', WHERE WHAT IT READS IS OF BULK AT MOST 1048576: true; the input reads as it did. -/
def objectAppliesUptoRow : OpenClaim := { program := "ytbpgopomninedaagreat", sum := "dc1942fadd9f8de350698c0d906710e21897d7d5476a32c4e41d13da84aafe50", func := "stopgate/stopgatelaw14.ObjectApplies", spec := "objectApplies", unfollowed := true, recurses := true, apart := false, narrowed := true }
def ObjectAppliesUptoSaid : Prop := objectAppliesUptoRow.holds Tryz.pinned (OpenSpec.upto objectAppliesSpec)

/-- 'stopgatelaw14.ObjectStays', WHERE WHAT IT READS IS OF BULK AT MOST 1048576: true; the input reads as it did. -/
def objectStaysUptoRow : OpenClaim := { program := "ytbpgopomninedaagreat", sum := "dc1942fadd9f8de350698c0d906710e21897d7d5476a32c4e41d13da84aafe50", func := "stopgate/stopgatelaw14.ObjectStays", spec := "objectStays", unfollowed := true, recurses := true, apart := false, narrowed := true }
def ObjectStaysUptoSaid : Prop := objectStaysUptoRow.holds Tryz.pinned (OpenSpec.upto objectStaysSpec)

/-- 'stopgatelaw14.ObjectOrder', WHERE WHAT IT READS IS OF BULK AT MOST 1048576: true; the input reads as it did. -/
def objectOrderUptoRow : OpenClaim := { program := "ytbpgopomninedaagreat", sum := "dc1942fadd9f8de350698c0d906710e21897d7d5476a32c4e41d13da84aafe50", func := "stopgate/stopgatelaw14.ObjectOrder", spec := "objectOrder", unfollowed := true, recurses := true, apart := false, narrowed := true }
def ObjectOrderUptoSaid : Prop := objectOrderUptoRow.holds Tryz.pinned (OpenSpec.upto objectOrderSpec)

end Rows
end Go.Proofs.YtbpgopomninedaaGreat
