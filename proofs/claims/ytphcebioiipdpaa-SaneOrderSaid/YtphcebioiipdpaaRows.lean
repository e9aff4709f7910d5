/-
  No cell of these rows narrows 'for every input' (looked for: loops, veiled, ifaces, maps, wideKeys, modest, calm, conditions, laid).
  DERIVED. THE GIVEN ROWS OF THIS SEAT. 6 by the template 'for every input the law returns true; each argument reads behind the call as it read before'; 0 by the template 'total and deterministic' (their statements: YtphcebioiipdpaaTotals.lean).
  GIVEN WITH THE SEED: the statements are not yours to turn. If you find one false, say at which input.
  Laid BY PROGRAM, IN A SANDBOX (cutbox-rows.mjs): the forced cells as the released guide's own fill.sh prints them over the translation 9d2f4cce3e4f5084… (all of the seat's roots in one cut). By AI agents, Wed Nov 11 2026. No macro, syntax, notation, axiom, sorry.
-/
import Derived.Test.YtphcebioiipdpaaChecked
import GoSem.Claim
import GoSem.ClaimJoined
import GoSem.ClaimMapViews
import Derived.JoinedTies
import Derived.KernelRfl
namespace Go.Proofs.Ytphcebioiipdpaa
/- THE CELL 'sum', in the pinned program and in every row, IS THE sha256 OF THE DUMP (.gsa) THAT YtphcebioiipdpaaProg.lean LOADS. Nothing in Lean hashes anything: it is a label: what it is worth is what the hold of that sum in a sandbox is worth. -/
noncomputable def Try.pinned : Pinned := { name := "ytphcebioiipdpaa", sum := "9d2f4cce3e4f5084c32d05d48b082ea231bc7ff8b8823e6c18759efd7fce6dc9", checked := Try.checked }
namespace Rows
def none {H : Type} : Left H := { results := [], args := [] }

/-- 'stopgatelaw12.HallApplies': WHATEVER THE INPUT: true; the input reads as it did. -/
def hallAppliesSpec : ChangeSpec := { name := "hallApplies", fn := fun _ => fun
  | [d1, d2, d3, d4, d5] => { results := [.lit (.bool true)], args := [d1, d2, d3, d4, d5] }
  | _ => none }
def hallAppliesRow : OpenClaim := { program := "ytphcebioiipdpaa", sum := "9d2f4cce3e4f5084c32d05d48b082ea231bc7ff8b8823e6c18759efd7fce6dc9", func := "stopgate/stopgatelaw12.HallApplies", spec := "hallApplies", unfollowed := true, recurses := true, apart := false }
def HallAppliesSaid : Prop := hallAppliesRow.holds Try.pinned (OpenSpec.ofChange hallAppliesSpec)

/-- ITS FALSE NEIGHBOUR: 'it returns false'. Refute it at one input. -/
def hallAppliesWrong : ChangeSpec := { name := "hallApplies", fn := fun _ => fun
  | [d1, d2, d3, d4, d5] => { results := [.lit (.bool false)], args := [d1, d2, d3, d4, d5] }
  | _ => none }
def HallAppliesWrongFalsely : Prop := hallAppliesRow.holds Try.pinned (OpenSpec.ofChange hallAppliesWrong)

/-- 'stopgatelaw12.HallSelects': WHATEVER THE INPUT: true; the input reads as it did. -/
def hallSelectsSpec : ChangeSpec := { name := "hallSelects", fn := fun _ => fun
  | [d1, d2, d3] => { results := [.lit (.bool true)], args := [d1, d2, d3] }
  | _ => none }
def hallSelectsRow : OpenClaim := { program := "ytphcebioiipdpaa", sum := "9d2f4cce3e4f5084c32d05d48b082ea231bc7ff8b8823e6c18759efd7fce6dc9", func := "stopgate/stopgatelaw12.HallSelects", spec := "hallSelects", unfollowed := true, recurses := true, apart := false }
def HallSelectsSaid : Prop := hallSelectsRow.holds Try.pinned (OpenSpec.ofChange hallSelectsSpec)

/-- ITS FALSE NEIGHBOUR: 'it returns false'. Refute it at one input. -/
def hallSelectsWrong : ChangeSpec := { name := "hallSelects", fn := fun _ => fun
  | [d1, d2, d3] => { results := [.lit (.bool false)], args := [d1, d2, d3] }
  | _ => none }
def HallSelectsWrongFalsely : Prop := hallSelectsRow.holds Try.pinned (OpenSpec.ofChange hallSelectsWrong)

/-- 'stopgatelaw12.HallDefault': WHATEVER THE INPUT: true; the input reads as it did. -/
def hallDefaultSpec : ChangeSpec := { name := "hallDefault", fn := fun _ => fun
  | [d1, d2, d3] => { results := [.lit (.bool true)], args := [d1, d2, d3] }
  | _ => none }
def hallDefaultRow : OpenClaim := { program := "ytphcebioiipdpaa", sum := "9d2f4cce3e4f5084c32d05d48b082ea231bc7ff8b8823e6c18759efd7fce6dc9", func := "stopgate/stopgatelaw12.HallDefault", spec := "hallDefault", unfollowed := true, recurses := true, apart := false }
def HallDefaultSaid : Prop := hallDefaultRow.holds Try.pinned (OpenSpec.ofChange hallDefaultSpec)

/-- ITS FALSE NEIGHBOUR: 'it returns false'. Refute it at one input. -/
def hallDefaultWrong : ChangeSpec := { name := "hallDefault", fn := fun _ => fun
  | [d1, d2, d3] => { results := [.lit (.bool false)], args := [d1, d2, d3] }
  | _ => none }
def HallDefaultWrongFalsely : Prop := hallDefaultRow.holds Try.pinned (OpenSpec.ofChange hallDefaultWrong)

/-- 'stopgatelaw12.HallFinds': WHATEVER THE INPUT: true; the input reads as it did. -/
def hallFindsSpec : ChangeSpec := { name := "hallFinds", fn := fun _ => fun
  | [d1, d2, d3] => { results := [.lit (.bool true)], args := [d1, d2, d3] }
  | _ => none }
def hallFindsRow : OpenClaim := { program := "ytphcebioiipdpaa", sum := "9d2f4cce3e4f5084c32d05d48b082ea231bc7ff8b8823e6c18759efd7fce6dc9", func := "stopgate/stopgatelaw12.HallFinds", spec := "hallFinds", unfollowed := true, recurses := true, apart := false }
def HallFindsSaid : Prop := hallFindsRow.holds Try.pinned (OpenSpec.ofChange hallFindsSpec)

/-- ITS FALSE NEIGHBOUR: 'it returns false'. Refute it at one input. -/
def hallFindsWrong : ChangeSpec := { name := "hallFinds", fn := fun _ => fun
  | [d1, d2, d3] => { results := [.lit (.bool false)], args := [d1, d2, d3] }
  | _ => none }
def HallFindsWrongFalsely : Prop := hallFindsRow.holds Try.pinned (OpenSpec.ofChange hallFindsWrong)

/-- 'stopgatelaw35.SaneStays': WHATEVER THE INPUT: true; the input reads as it did. -/
def saneStaysSpec : ChangeSpec := { name := "saneStays", fn := fun _ => fun
  | [d1, d2] => { results := [.lit (.bool true)], args := [d1, d2] }
  | _ => none }
def saneStaysRow : OpenClaim := { program := "ytphcebioiipdpaa", sum := "9d2f4cce3e4f5084c32d05d48b082ea231bc7ff8b8823e6c18759efd7fce6dc9", func := "stopgate/stopgatelaw35.SaneStays", spec := "saneStays", unfollowed := true, recurses := true, apart := false }
def SaneStaysSaid : Prop := saneStaysRow.holds Try.pinned (OpenSpec.ofChange saneStaysSpec)

/-- ITS FALSE NEIGHBOUR: 'it returns false'. Refute it at one input. -/
def saneStaysWrong : ChangeSpec := { name := "saneStays", fn := fun _ => fun
  | [d1, d2] => { results := [.lit (.bool false)], args := [d1, d2] }
  | _ => none }
def SaneStaysWrongFalsely : Prop := saneStaysRow.holds Try.pinned (OpenSpec.ofChange saneStaysWrong)

/-- 'stopgatelaw35.SaneOrder': WHATEVER THE INPUT: true; the input reads as it did. -/
def saneOrderSpec : ChangeSpec := { name := "saneOrder", fn := fun _ => fun
  | [d1, d2] => { results := [.lit (.bool true)], args := [d1, d2] }
  | _ => none }
def saneOrderRow : OpenClaim := { program := "ytphcebioiipdpaa", sum := "9d2f4cce3e4f5084c32d05d48b082ea231bc7ff8b8823e6c18759efd7fce6dc9", func := "stopgate/stopgatelaw35.SaneOrder", spec := "saneOrder", unfollowed := true, recurses := true, apart := false }
def SaneOrderSaid : Prop := saneOrderRow.holds Try.pinned (OpenSpec.ofChange saneOrderSpec)

/-- ITS FALSE NEIGHBOUR: 'it returns false'. Refute it at one input. -/
def saneOrderWrong : ChangeSpec := { name := "saneOrder", fn := fun _ => fun
  | [d1, d2] => { results := [.lit (.bool false)], args := [d1, d2] }
  | _ => none }
def SaneOrderWrongFalsely : Prop := saneOrderRow.holds Try.pinned (OpenSpec.ofChange saneOrderWrong)

/- THE SECOND FORM. 'bulk': how many values and letters a reading holds, each counted each time it is reached (what is shared counts as often as it is met; a slice's spare places count too). A statement '..UptoSaid' is the law's where the arguments, and the package variables that the reading takes, are together of bulk at most 1048576: NARROWER than '..Said'. Prove '..Said' where nothing that the law and all that it calls make is longer than what came in: it says more and counts as full. Else prove '..UptoSaid'. A law counts once. -/
mutual
def uptoBulk {H : Type} : DataW H → Nat
  | .lit (.string bytes) => bytes.length + 1
  | .lit _ => 1
  | .nil => 1
  | .ptr d => uptoBulk d + 1
  | .slice elems spare => uptoBulkAll elems + uptoBulkAll spare + 1
  | .agg parts => uptoBulkAll parts + 1
  | .iface _ d => uptoBulk d + 1
  | .map entries => uptoBulkEntries entries + 1
  | .held _ => 1
def uptoBulkAll {H : Type} : List (DataW H) → Nat
  | [] => 0
  | d :: r => uptoBulk d + uptoBulkAll r
def uptoBulkEntries {H : Type} : List (Lit × DataW H) → Nat
  | [] => 0
  | x :: r => uptoBulkEntry x + uptoBulkEntries r
def uptoBulkEntry {H : Type} : Lit × DataW H → Nat
  | (.string bytes, d) => bytes.length + uptoBulk d + 1
  | (_, d) => uptoBulk d + 1
 end
def uptoSmall : (H : Type) → List (DataW H) → Bool := fun _ ds => decide (uptoBulkAll ds ≤ 1048576)
def OpenSpec.upto (s : _root_.Go.ChangeSpec) : _root_.Go.OpenSpec := { _root_.Go.OpenSpec.ofChange s with cond := some uptoSmall }

/-- 'stopgatelaw12.HallApplies', WHERE WHAT IT READS IS OF BULK AT MOST 1048576: true; the input reads as it did. -/
def hallAppliesUptoRow : OpenClaim := { program := "ytphcebioiipdpaa", sum := "9d2f4cce3e4f5084c32d05d48b082ea231bc7ff8b8823e6c18759efd7fce6dc9", func := "stopgate/stopgatelaw12.HallApplies", spec := "hallApplies", unfollowed := true, recurses := true, apart := false, narrowed := true }
def HallAppliesUptoSaid : Prop := hallAppliesUptoRow.holds Try.pinned (OpenSpec.upto hallAppliesSpec)

/-- 'stopgatelaw12.HallSelects', WHERE WHAT IT READS IS OF BULK AT MOST 1048576: true; the input reads as it did. -/
def hallSelectsUptoRow : OpenClaim := { program := "ytphcebioiipdpaa", sum := "9d2f4cce3e4f5084c32d05d48b082ea231bc7ff8b8823e6c18759efd7fce6dc9", func := "stopgate/stopgatelaw12.HallSelects", spec := "hallSelects", unfollowed := true, recurses := true, apart := false, narrowed := true }
def HallSelectsUptoSaid : Prop := hallSelectsUptoRow.holds Try.pinned (OpenSpec.upto hallSelectsSpec)

/-- 'stopgatelaw12.HallDefault', WHERE WHAT IT READS IS OF BULK AT MOST 1048576: true; the input reads as it did. -/
def hallDefaultUptoRow : OpenClaim := { program := "ytphcebioiipdpaa", sum := "9d2f4cce3e4f5084c32d05d48b082ea231bc7ff8b8823e6c18759efd7fce6dc9", func := "stopgate/stopgatelaw12.HallDefault", spec := "hallDefault", unfollowed := true, recurses := true, apart := false, narrowed := true }
def HallDefaultUptoSaid : Prop := hallDefaultUptoRow.holds Try.pinned (OpenSpec.upto hallDefaultSpec)

/-- 'stopgatelaw12.HallFinds', WHERE WHAT IT READS IS OF BULK AT MOST 1048576: true; the input reads as it did. -/
def hallFindsUptoRow : OpenClaim := { program := "ytphcebioiipdpaa", sum := "9d2f4cce3e4f5084c32d05d48b082ea231bc7ff8b8823e6c18759efd7fce6dc9", func := "stopgate/stopgatelaw12.HallFinds", spec := "hallFinds", unfollowed := true, recurses := true, apart := false, narrowed := true }
def HallFindsUptoSaid : Prop := hallFindsUptoRow.holds Try.pinned (OpenSpec.upto hallFindsSpec)

/-- 'stopgatelaw35.SaneStays', WHERE WHAT IT READS IS OF BULK AT MOST 1048576: true; the input reads as it did. -/
def saneStaysUptoRow : OpenClaim := { program := "ytphcebioiipdpaa", sum := "9d2f4cce3e4f5084c32d05d48b082ea231bc7ff8b8823e6c18759efd7fce6dc9", func := "stopgate/stopgatelaw35.SaneStays", spec := "saneStays", unfollowed := true, recurses := true, apart := false, narrowed := true }
def SaneStaysUptoSaid : Prop := saneStaysUptoRow.holds Try.pinned (OpenSpec.upto saneStaysSpec)

/-- 'stopgatelaw35.SaneOrder', WHERE WHAT IT READS IS OF BULK AT MOST 1048576: true; the input reads as it did. -/
def saneOrderUptoRow : OpenClaim := { program := "ytphcebioiipdpaa", sum := "9d2f4cce3e4f5084c32d05d48b082ea231bc7ff8b8823e6c18759efd7fce6dc9", func := "stopgate/stopgatelaw35.SaneOrder", spec := "saneOrder", unfollowed := true, recurses := true, apart := false, narrowed := true }
def SaneOrderUptoSaid : Prop := saneOrderUptoRow.holds Try.pinned (OpenSpec.upto saneOrderSpec)

end Rows
end Go.Proofs.Ytphcebioiipdpaa
