/-
  No cell of these rows narrows 'for every input' (looked for: loops, veiled, ifaces, maps, wideKeys, modest, calm, conditions, laid).
  DERIVED. THE GIVEN ROWS OF THIS SEAT. 7 by the template 'for every input the law returns true; each argument reads behind the call as it read before'; 0 by the template 'total and deterministic' (their statements: YtccefppppedgkaaGreatTotals.lean).
  GIVEN WITH THE SEED: the statements are not yours to turn. If you find one false, say at which input.
  Laid BY PROGRAM, IN A SANDBOX (cutbox-rows.mjs): the forced cells as the released guide's own fill.sh prints them over the translation 1037b53885ca3a4e… (all of the seat's roots in one cut). By AI agents, Wed Nov 11 2026. No macro, syntax, notation, axiom, sorry.
-/
import Derived.Test.YtccefppppedgkaaGreatChecked
import GoSem.Claim
import GoSem.ClaimJoined
import GoSem.ClaimMapViews
import Derived.JoinedTies
import Derived.KernelRfl
namespace Go.Proofs.YtccefppppedgkaaGreat
/- THE CELL 'sum', in the pinned program and in every row, IS THE sha256 OF THE DUMP (.gsa) THAT YtccefppppedgkaaGreatProg.lean LOADS. Nothing in Lean hashes anything: it is a label: what it is worth is what the hold of that sum in a sandbox is worth. -/
noncomputable def Tryz.pinned : Pinned := { name := "ytccefppppedgkaagreat", sum := "1037b53885ca3a4e8919c66c0718071f752199468b57f6c7905c8ed1519c07a4", checked := Tryz.checked }
namespace Rows
def none {H : Type} : Left H := { results := [], args := [] }

/-- 'stopgatetop.TopGarbage': WHATEVER THE INPUT: true; the input reads as it did. -/
def topGarbageSpec : ChangeSpec := { name := "topGarbage", fn := fun _ => fun
  | [d1, d2, d3, d4] => { results := [.lit (.bool true)], args := [d1, d2, d3, d4] }
  | _ => none }
def topGarbageRow : OpenClaim := { program := "ytccefppppedgkaagreat", sum := "1037b53885ca3a4e8919c66c0718071f752199468b57f6c7905c8ed1519c07a4", func := "stopgate/stopgatetop.TopGarbage", spec := "topGarbage", unfollowed := true, recurses := true, apart := false }
def TopGarbageSaid : Prop := topGarbageRow.holds Tryz.pinned (OpenSpec.ofChange topGarbageSpec)

/-- ITS FALSE NEIGHBOUR: 'it returns false'. Refute it at one input. -/
def topGarbageWrong : ChangeSpec := { name := "topGarbage", fn := fun _ => fun
  | [d1, d2, d3, d4] => { results := [.lit (.bool false)], args := [d1, d2, d3, d4] }
  | _ => none }
def TopGarbageWrongFalsely : Prop := topGarbageRow.holds Tryz.pinned (OpenSpec.ofChange topGarbageWrong)

/-- 'stopgatetop.TopTorn': WHATEVER THE INPUT: true; the input reads as it did. -/
def topTornSpec : ChangeSpec := { name := "topTorn", fn := fun _ => fun
  | [d1, d2] => { results := [.lit (.bool true)], args := [d1, d2] }
  | _ => none }
def topTornRow : OpenClaim := { program := "ytccefppppedgkaagreat", sum := "1037b53885ca3a4e8919c66c0718071f752199468b57f6c7905c8ed1519c07a4", func := "stopgate/stopgatetop.TopTorn", spec := "topTorn", unfollowed := true, recurses := true, apart := false }
def TopTornSaid : Prop := topTornRow.holds Tryz.pinned (OpenSpec.ofChange topTornSpec)

/-- ITS FALSE NEIGHBOUR: 'it returns false'. Refute it at one input. -/
def topTornWrong : ChangeSpec := { name := "topTorn", fn := fun _ => fun
  | [d1, d2] => { results := [.lit (.bool false)], args := [d1, d2] }
  | _ => none }
def TopTornWrongFalsely : Prop := topTornRow.holds Tryz.pinned (OpenSpec.ofChange topTornWrong)

/-- 'stopgatetop.TopNoops': WHATEVER THE INPUT: true; the input reads as it did. -/
def topNoopsSpec : ChangeSpec := { name := "topNoops", fn := fun _ => fun
  | [d1, d2] => { results := [.lit (.bool true)], args := [d1, d2] }
  | _ => none }
def topNoopsRow : OpenClaim := { program := "ytccefppppedgkaagreat", sum := "1037b53885ca3a4e8919c66c0718071f752199468b57f6c7905c8ed1519c07a4", func := "stopgate/stopgatetop.TopNoops", spec := "topNoops", unfollowed := true, recurses := true, apart := false }
def TopNoopsSaid : Prop := topNoopsRow.holds Tryz.pinned (OpenSpec.ofChange topNoopsSpec)

/-- ITS FALSE NEIGHBOUR: 'it returns false'. Refute it at one input. -/
def topNoopsWrong : ChangeSpec := { name := "topNoops", fn := fun _ => fun
  | [d1, d2] => { results := [.lit (.bool false)], args := [d1, d2] }
  | _ => none }
def TopNoopsWrongFalsely : Prop := topNoopsRow.holds Tryz.pinned (OpenSpec.ofChange topNoopsWrong)

/-- 'stopgatetop.TopChain': WHATEVER THE INPUT: true; the input reads as it did. -/
def topChainSpec : ChangeSpec := { name := "topChain", fn := fun _ => fun
  | [d1, d2] => { results := [.lit (.bool true)], args := [d1, d2] }
  | _ => none }
def topChainRow : OpenClaim := { program := "ytccefppppedgkaagreat", sum := "1037b53885ca3a4e8919c66c0718071f752199468b57f6c7905c8ed1519c07a4", func := "stopgate/stopgatetop.TopChain", spec := "topChain", unfollowed := true, recurses := true, apart := false }
def TopChainSaid : Prop := topChainRow.holds Tryz.pinned (OpenSpec.ofChange topChainSpec)

/-- ITS FALSE NEIGHBOUR: 'it returns false'. Refute it at one input. -/
def topChainWrong : ChangeSpec := { name := "topChain", fn := fun _ => fun
  | [d1, d2] => { results := [.lit (.bool false)], args := [d1, d2] }
  | _ => none }
def TopChainWrongFalsely : Prop := topChainRow.holds Tryz.pinned (OpenSpec.ofChange topChainWrong)

/-- 'stopgatetop.TopTags': WHATEVER THE INPUT: true; the input reads as it did. -/
def topTagsSpec : ChangeSpec := { name := "topTags", fn := fun _ => fun
  | [d1, d2] => { results := [.lit (.bool true)], args := [d1, d2] }
  | _ => none }
def topTagsRow : OpenClaim := { program := "ytccefppppedgkaagreat", sum := "1037b53885ca3a4e8919c66c0718071f752199468b57f6c7905c8ed1519c07a4", func := "stopgate/stopgatetop.TopTags", spec := "topTags", unfollowed := true, recurses := true, apart := false }
def TopTagsSaid : Prop := topTagsRow.holds Tryz.pinned (OpenSpec.ofChange topTagsSpec)

/-- ITS FALSE NEIGHBOUR: 'it returns false'. Refute it at one input. -/
def topTagsWrong : ChangeSpec := { name := "topTags", fn := fun _ => fun
  | [d1, d2] => { results := [.lit (.bool false)], args := [d1, d2] }
  | _ => none }
def TopTagsWrongFalsely : Prop := topTagsRow.holds Tryz.pinned (OpenSpec.ofChange topTagsWrong)

/-- 'stopgatetop.TopLives': WHATEVER THE INPUT: true; the input reads as it did. -/
def topLivesSpec : ChangeSpec := { name := "topLives", fn := fun _ => fun
  | [d1, d2] => { results := [.lit (.bool true)], args := [d1, d2] }
  | _ => none }
def topLivesRow : OpenClaim := { program := "ytccefppppedgkaagreat", sum := "1037b53885ca3a4e8919c66c0718071f752199468b57f6c7905c8ed1519c07a4", func := "stopgate/stopgatetop.TopLives", spec := "topLives", unfollowed := true, recurses := true, apart := false }
def TopLivesSaid : Prop := topLivesRow.holds Tryz.pinned (OpenSpec.ofChange topLivesSpec)

/-- ITS FALSE NEIGHBOUR: 'it returns false'. Refute it at one input. -/
def topLivesWrong : ChangeSpec := { name := "topLives", fn := fun _ => fun
  | [d1, d2] => { results := [.lit (.bool false)], args := [d1, d2] }
  | _ => none }
def TopLivesWrongFalsely : Prop := topLivesRow.holds Tryz.pinned (OpenSpec.ofChange topLivesWrong)

/-- 'stopgatetop.TopFifo': WHATEVER THE INPUT: true; the input reads as it did. -/
def topFifoSpec : ChangeSpec := { name := "topFifo", fn := fun _ => fun
  | [d1, d2] => { results := [.lit (.bool true)], args := [d1, d2] }
  | _ => none }
def topFifoRow : OpenClaim := { program := "ytccefppppedgkaagreat", sum := "1037b53885ca3a4e8919c66c0718071f752199468b57f6c7905c8ed1519c07a4", func := "stopgate/stopgatetop.TopFifo", spec := "topFifo", unfollowed := true, recurses := true, apart := false }
def TopFifoSaid : Prop := topFifoRow.holds Tryz.pinned (OpenSpec.ofChange topFifoSpec)

/-- ITS FALSE NEIGHBOUR: 'it returns false'. Refute it at one input. -/
def topFifoWrong : ChangeSpec := { name := "topFifo", fn := fun _ => fun
  | [d1, d2] => { results := [.lit (.bool false)], args := [d1, d2] }
  | _ => none }
def TopFifoWrongFalsely : Prop := topFifoRow.holds Tryz.pinned (OpenSpec.ofChange topFifoWrong)

/- THE SECOND FORM. 'bulk': how many values and letters a reading holds, each counted each time it is reached (what is shared counts as often as it is met; a slice's spare places count too). A statement '..UptoSaid' is the law's where the arguments, and the package variables that the reading takes, are together of bulk at most 1048576: NARROWER than '..Said'. Prove '..Said' where nothing that the law and all that it calls make is longer than what came in: it says more and counts as full. Else prove '..UptoSaid'. A law counts once. -/
mutual
def uptoBulk {H : Type} : DataW H → Nat
  | .lit (.string bytes) => bytes.length + 1
  | .lit _ => 1
  | .nil => 1
  | .ptr d => uptoBulk d + 1
  | .slice elems spare => uptoBulkAll elems + uptoBulkAll spare + 1
  | .agg parts => uptoBulkAll parts + 1
  | .iface _ d => uptoBulk d + 1
  | .map entries => uptoBulkEntries entries + 1
  | .held _ => 1
def uptoBulkAll {H : Type} : List (DataW H) → Nat
  | [] => 0
  | d :: r => uptoBulk d + uptoBulkAll r
def uptoBulkEntries {H : Type} : List (Lit × DataW H) → Nat
  | [] => 0
  | x :: r => uptoBulkEntry x + uptoBulkEntries r
def uptoBulkEntry {H : Type} : Lit × DataW H → Nat
  | (.string bytes, d) => bytes.length + uptoBulk d + 1
  | (_, d) => uptoBulk d + 1
 end
def uptoSmall : (H : Type) → List (DataW H) → Bool := fun _ ds => decide (uptoBulkAll ds ≤ 1048576)
def OpenSpec.upto (s : _root_.Go.ChangeSpec) : _root_.Go.OpenSpec := { _root_.Go.OpenSpec.ofChange s with cond := some uptoSmall }

/-- 'stopgatetop.TopGarbage', WHERE WHAT IT READS IS OF BULK AT MOST 1048576: true; the input reads as it did. -/
def topGarbageUptoRow : OpenClaim := { program := "ytccefppppedgkaagreat", sum := "1037b53885ca3a4e8919c66c0718071f752199468b57f6c7905c8ed1519c07a4", func := "stopgate/stopgatetop.TopGarbage", spec := "topGarbage", unfollowed := true, recurses := true, apart := false, narrowed := true }
def TopGarbageUptoSaid : Prop := topGarbageUptoRow.holds Tryz.pinned (OpenSpec.upto topGarbageSpec)

/-- 'stopgatetop.TopTorn', WHERE WHAT IT READS IS OF BULK AT MOST 1048576: true; the input reads as it did. -/
def topTornUptoRow : OpenClaim := { program := "ytccefppppedgkaagreat", sum := "1037b53885ca3a4e8919c66c0718071f752199468b57f6c7905c8ed1519c07a4", func := "stopgate/stopgatetop.TopTorn", spec := "topTorn", unfollowed := true, recurses := true, apart := false, narrowed := true }
def TopTornUptoSaid : Prop := topTornUptoRow.holds Tryz.pinned (OpenSpec.upto topTornSpec)

/-- 'stopgatetop.TopNoops', WHERE WHAT IT READS IS OF BULK AT MOST 1048576: true; the input reads as it did. -/
def topNoopsUptoRow : OpenClaim := { program := "ytccefppppedgkaagreat", sum := "1037b53885ca3a4e8919c66c0718071f752199468b57f6c7905c8ed1519c07a4", func := "stopgate/stopgatetop.TopNoops", spec := "topNoops", unfollowed := true, recurses := true, apart := false, narrowed := true }
def TopNoopsUptoSaid : Prop := topNoopsUptoRow.holds Tryz.pinned (OpenSpec.upto topNoopsSpec)

/-- 'stopgatetop.TopChain', WHERE WHAT IT READS IS OF BULK AT MOST 1048576: true; the input reads as it did. -/
def topChainUptoRow : OpenClaim := { program := "ytccefppppedgkaagreat", sum := "1037b53885ca3a4e8919c66c0718071f752199468b57f6c7905c8ed1519c07a4", func := "stopgate/stopgatetop.TopChain", spec := "topChain", unfollowed := true, recurses := true, apart := false, narrowed := true }
def TopChainUptoSaid : Prop := topChainUptoRow.holds Tryz.pinned (OpenSpec.upto topChainSpec)

/-- 'stopgatetop.TopTags', WHERE WHAT IT READS IS OF BULK AT MOST 1048576: true; the input reads as it did. -/
def topTagsUptoRow : OpenClaim := { program := "ytccefppppedgkaagreat", sum := "1037b53885ca3a4e8919c66c0718071f752199468b57f6c7905c8ed1519c07a4", func := "stopgate/stopgatetop.TopTags", spec := "topTags", unfollowed := true, recurses := true, apart := false, narrowed := true }
def TopTagsUptoSaid : Prop := topTagsUptoRow.holds Tryz.pinned (OpenSpec.upto topTagsSpec)

/-- 'stopgatetop.TopLives', WHERE WHAT IT READS IS OF BULK AT MOST 1048576: true; the input reads as it did. -/
def topLivesUptoRow : OpenClaim := { program := "ytccefppppedgkaagreat", sum := "1037b53885ca3a4e8919c66c0718071f752199468b57f6c7905c8ed1519c07a4", func := "stopgate/stopgatetop.TopLives", spec := "topLives", unfollowed := true, recurses := true, apart := false, narrowed := true }
def TopLivesUptoSaid : Prop := topLivesUptoRow.holds Tryz.pinned (OpenSpec.upto topLivesSpec)

/-- 'stopgatetop.TopFifo', WHERE WHAT IT READS IS OF BULK AT MOST 1048576: true; the input reads as it did. -/
def topFifoUptoRow : OpenClaim := { program := "ytccefppppedgkaagreat", sum := "1037b53885ca3a4e8919c66c0718071f752199468b57f6c7905c8ed1519c07a4", func := "stopgate/stopgatetop.TopFifo", spec := "topFifo", unfollowed := true, recurses := true, apart := false, narrowed := true }
def TopFifoUptoSaid : Prop := topFifoUptoRow.holds Tryz.pinned (OpenSpec.upto topFifoSpec)

end Rows
end Go.Proofs.YtccefppppedgkaaGreat
