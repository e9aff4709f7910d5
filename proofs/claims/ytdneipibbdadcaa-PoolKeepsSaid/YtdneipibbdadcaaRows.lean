/-
  No cell of these rows narrows 'for every input' (looked for: loops, veiled, ifaces, maps, wideKeys, modest, calm, conditions, laid).
  DERIVED. THE GIVEN ROWS OF THIS SEAT. 19 by the template 'for every input the law returns true; each argument reads behind the call as it read before'; 0 by the template 'total and deterministic' (their statements: YtdneipibbdadcaaTotals.lean).
  GIVEN WITH THE SEED: the statements are not yours to turn. If you find one false, say at which input.
  Laid BY PROGRAM, IN A SANDBOX (cutbox-rows.mjs): the forced cells as the released guide's own fill.sh prints them over the translation f5117cd7118553e8… (all of the seat's roots in one cut). By AI agents, Wed Nov 11 2026. No macro, syntax, notation, axiom, sorry.
-/
import Derived.Test.YtdneipibbdadcaaChecked
import GoSem.Claim
import GoSem.ClaimJoined
import GoSem.ClaimMapViews
import Derived.JoinedTies
import Derived.KernelRfl
namespace Go.Proofs.Ytdneipibbdadcaa
/- THE CELL 'sum', in the pinned program and in every row, IS THE sha256 OF THE DUMP (.gsa) THAT YtdneipibbdadcaaProg.lean LOADS. Nothing in Lean hashes anything: it is a label: what it is worth is what the hold of that sum in a sandbox is worth. -/
noncomputable def Try.pinned : Pinned := { name := "ytdneipibbdadcaa", sum := "f5117cd7118553e82b851b1666f79a29ccfaa7f941dfd4e52e5657077568982e", checked := Try.checked }
namespace Rows
def none {H : Type} : Left H := { results := [], args := [] }

/-- 'stopgatelaw08.FifoApplies': WHATEVER THE INPUT: true; the input reads as it did. -/
def fifoAppliesSpec : ChangeSpec := { name := "fifoApplies", fn := fun _ => fun
  | [d1, d2, d3, d4, d5, d6] => { results := [.lit (.bool true)], args := [d1, d2, d3, d4, d5, d6] }
  | _ => none }
def fifoAppliesRow : OpenClaim := { program := "ytdneipibbdadcaa", sum := "f5117cd7118553e82b851b1666f79a29ccfaa7f941dfd4e52e5657077568982e", func := "stopgate/stopgatelaw08.FifoApplies", spec := "fifoApplies", apart := false }
def FifoAppliesSaid : Prop := fifoAppliesRow.holds Try.pinned (OpenSpec.ofChange fifoAppliesSpec)

/-- ITS FALSE NEIGHBOUR: 'it returns false'. Refute it at one input. -/
def fifoAppliesWrong : ChangeSpec := { name := "fifoApplies", fn := fun _ => fun
  | [d1, d2, d3, d4, d5, d6] => { results := [.lit (.bool false)], args := [d1, d2, d3, d4, d5, d6] }
  | _ => none }
def FifoAppliesWrongFalsely : Prop := fifoAppliesRow.holds Try.pinned (OpenSpec.ofChange fifoAppliesWrong)

/-- 'stopgatelaw08.FifoOrder': WHATEVER THE INPUT: true; the input reads as it did. -/
def fifoOrderSpec : ChangeSpec := { name := "fifoOrder", fn := fun _ => fun
  | [d1, d2] => { results := [.lit (.bool true)], args := [d1, d2] }
  | _ => none }
def fifoOrderRow : OpenClaim := { program := "ytdneipibbdadcaa", sum := "f5117cd7118553e82b851b1666f79a29ccfaa7f941dfd4e52e5657077568982e", func := "stopgate/stopgatelaw08.FifoOrder", spec := "fifoOrder", apart := false }
def FifoOrderSaid : Prop := fifoOrderRow.holds Try.pinned (OpenSpec.ofChange fifoOrderSpec)

/-- ITS FALSE NEIGHBOUR: 'it returns false'. Refute it at one input. -/
def fifoOrderWrong : ChangeSpec := { name := "fifoOrder", fn := fun _ => fun
  | [d1, d2] => { results := [.lit (.bool false)], args := [d1, d2] }
  | _ => none }
def FifoOrderWrongFalsely : Prop := fifoOrderRow.holds Try.pinned (OpenSpec.ofChange fifoOrderWrong)

/-- 'stopgatelaw08.FifoSegments': WHATEVER THE INPUT: true; the input reads as it did. -/
def fifoSegmentsSpec : ChangeSpec := { name := "fifoSegments", fn := fun _ => fun
  | [d1, d2, d3] => { results := [.lit (.bool true)], args := [d1, d2, d3] }
  | _ => none }
def fifoSegmentsRow : OpenClaim := { program := "ytdneipibbdadcaa", sum := "f5117cd7118553e82b851b1666f79a29ccfaa7f941dfd4e52e5657077568982e", func := "stopgate/stopgatelaw08.FifoSegments", spec := "fifoSegments", unfollowed := true, recurses := true, apart := false }
def FifoSegmentsSaid : Prop := fifoSegmentsRow.holds Try.pinned (OpenSpec.ofChange fifoSegmentsSpec)

/-- ITS FALSE NEIGHBOUR: 'it returns false'. Refute it at one input. -/
def fifoSegmentsWrong : ChangeSpec := { name := "fifoSegments", fn := fun _ => fun
  | [d1, d2, d3] => { results := [.lit (.bool false)], args := [d1, d2, d3] }
  | _ => none }
def FifoSegmentsWrongFalsely : Prop := fifoSegmentsRow.holds Try.pinned (OpenSpec.ofChange fifoSegmentsWrong)

/-- 'stopgatelaw09.LifoApplies': WHATEVER THE INPUT: true; the input reads as it did. -/
def lifoAppliesSpec : ChangeSpec := { name := "lifoApplies", fn := fun _ => fun
  | [d1, d2, d3, d4, d5, d6] => { results := [.lit (.bool true)], args := [d1, d2, d3, d4, d5, d6] }
  | _ => none }
def lifoAppliesRow : OpenClaim := { program := "ytdneipibbdadcaa", sum := "f5117cd7118553e82b851b1666f79a29ccfaa7f941dfd4e52e5657077568982e", func := "stopgate/stopgatelaw09.LifoApplies", spec := "lifoApplies", apart := false }
def LifoAppliesSaid : Prop := lifoAppliesRow.holds Try.pinned (OpenSpec.ofChange lifoAppliesSpec)

/-- ITS FALSE NEIGHBOUR: 'it returns false'. Refute it at one input. -/
def lifoAppliesWrong : ChangeSpec := { name := "lifoApplies", fn := fun _ => fun
  | [d1, d2, d3, d4, d5, d6] => { results := [.lit (.bool false)], args := [d1, d2, d3, d4, d5, d6] }
  | _ => none }
def LifoAppliesWrongFalsely : Prop := lifoAppliesRow.holds Try.pinned (OpenSpec.ofChange lifoAppliesWrong)

/-- 'stopgatelaw09.LifoUndoes': WHATEVER THE INPUT: true; the input reads as it did. -/
def lifoUndoesSpec : ChangeSpec := { name := "lifoUndoes", fn := fun _ => fun
  | [d1, d2, d3, d4] => { results := [.lit (.bool true)], args := [d1, d2, d3, d4] }
  | _ => none }
def lifoUndoesRow : OpenClaim := { program := "ytdneipibbdadcaa", sum := "f5117cd7118553e82b851b1666f79a29ccfaa7f941dfd4e52e5657077568982e", func := "stopgate/stopgatelaw09.LifoUndoes", spec := "lifoUndoes", apart := false }
def LifoUndoesSaid : Prop := lifoUndoesRow.holds Try.pinned (OpenSpec.ofChange lifoUndoesSpec)

/-- ITS FALSE NEIGHBOUR: 'it returns false'. Refute it at one input. -/
def lifoUndoesWrong : ChangeSpec := { name := "lifoUndoes", fn := fun _ => fun
  | [d1, d2, d3, d4] => { results := [.lit (.bool false)], args := [d1, d2, d3, d4] }
  | _ => none }
def LifoUndoesWrongFalsely : Prop := lifoUndoesRow.holds Try.pinned (OpenSpec.ofChange lifoUndoesWrong)

/-- 'stopgatelaw09.LifoTurned': WHATEVER THE INPUT: true; the input reads as it did. -/
def lifoTurnedSpec : ChangeSpec := { name := "lifoTurned", fn := fun _ => fun
  | [d] => { results := [.lit (.bool true)], args := [d] }
  | _ => none }
def lifoTurnedRow : OpenClaim := { program := "ytdneipibbdadcaa", sum := "f5117cd7118553e82b851b1666f79a29ccfaa7f941dfd4e52e5657077568982e", func := "stopgate/stopgatelaw09.LifoTurned", spec := "lifoTurned", apart := false }
def LifoTurnedSaid : Prop := lifoTurnedRow.holds Try.pinned (OpenSpec.ofChange lifoTurnedSpec)

/-- ITS FALSE NEIGHBOUR: 'it returns false'. Refute it at one input. -/
def lifoTurnedWrong : ChangeSpec := { name := "lifoTurned", fn := fun _ => fun
  | [d] => { results := [.lit (.bool false)], args := [d] }
  | _ => none }
def LifoTurnedWrongFalsely : Prop := lifoTurnedRow.holds Try.pinned (OpenSpec.ofChange lifoTurnedWrong)

/-- 'stopgatelaw05.PoolTakes': WHATEVER THE INPUT: true; the input reads as it did. -/
def poolTakesSpec : ChangeSpec := { name := "poolTakes", fn := fun _ => fun
  | [d1, d2, d3, d4] => { results := [.lit (.bool true)], args := [d1, d2, d3, d4] }
  | _ => none }
def poolTakesRow : OpenClaim := { program := "ytdneipibbdadcaa", sum := "f5117cd7118553e82b851b1666f79a29ccfaa7f941dfd4e52e5657077568982e", func := "stopgate/stopgatelaw05.PoolTakes", spec := "poolTakes", unfollowed := true, recurses := true, apart := false }
def PoolTakesSaid : Prop := poolTakesRow.holds Try.pinned (OpenSpec.ofChange poolTakesSpec)

/-- ITS FALSE NEIGHBOUR: 'it returns false'. Refute it at one input. -/
def poolTakesWrong : ChangeSpec := { name := "poolTakes", fn := fun _ => fun
  | [d1, d2, d3, d4] => { results := [.lit (.bool false)], args := [d1, d2, d3, d4] }
  | _ => none }
def PoolTakesWrongFalsely : Prop := poolTakesRow.holds Try.pinned (OpenSpec.ofChange poolTakesWrong)

/-- 'stopgatelaw05.PoolMoves': WHATEVER THE INPUT: true; the input reads as it did. -/
def poolMovesSpec : ChangeSpec := { name := "poolMoves", fn := fun _ => fun
  | [d1, d2, d3] => { results := [.lit (.bool true)], args := [d1, d2, d3] }
  | _ => none }
def poolMovesRow : OpenClaim := { program := "ytdneipibbdadcaa", sum := "f5117cd7118553e82b851b1666f79a29ccfaa7f941dfd4e52e5657077568982e", func := "stopgate/stopgatelaw05.PoolMoves", spec := "poolMoves", unfollowed := true, recurses := true, apart := false }
def PoolMovesSaid : Prop := poolMovesRow.holds Try.pinned (OpenSpec.ofChange poolMovesSpec)

/-- ITS FALSE NEIGHBOUR: 'it returns false'. Refute it at one input. -/
def poolMovesWrong : ChangeSpec := { name := "poolMoves", fn := fun _ => fun
  | [d1, d2, d3] => { results := [.lit (.bool false)], args := [d1, d2, d3] }
  | _ => none }
def PoolMovesWrongFalsely : Prop := poolMovesRow.holds Try.pinned (OpenSpec.ofChange poolMovesWrong)

/-- 'stopgatelaw05.PoolBack': WHATEVER THE INPUT: true; the input reads as it did. -/
def poolBackSpec : ChangeSpec := { name := "poolBack", fn := fun _ => fun
  | [d1, d2] => { results := [.lit (.bool true)], args := [d1, d2] }
  | _ => none }
def poolBackRow : OpenClaim := { program := "ytdneipibbdadcaa", sum := "f5117cd7118553e82b851b1666f79a29ccfaa7f941dfd4e52e5657077568982e", func := "stopgate/stopgatelaw05.PoolBack", spec := "poolBack", unfollowed := true, recurses := true, apart := false }
def PoolBackSaid : Prop := poolBackRow.holds Try.pinned (OpenSpec.ofChange poolBackSpec)

/-- ITS FALSE NEIGHBOUR: 'it returns false'. Refute it at one input. -/
def poolBackWrong : ChangeSpec := { name := "poolBack", fn := fun _ => fun
  | [d1, d2] => { results := [.lit (.bool false)], args := [d1, d2] }
  | _ => none }
def PoolBackWrongFalsely : Prop := poolBackRow.holds Try.pinned (OpenSpec.ofChange poolBackWrong)

/-- 'stopgatelaw05.PoolKeeps': WHATEVER THE INPUT: true; the input reads as it did. -/
def poolKeepsSpec : ChangeSpec := { name := "poolKeeps", fn := fun _ => fun
  | [d1, d2, d3, d4] => { results := [.lit (.bool true)], args := [d1, d2, d3, d4] }
  | _ => none }
def poolKeepsRow : OpenClaim := { program := "ytdneipibbdadcaa", sum := "f5117cd7118553e82b851b1666f79a29ccfaa7f941dfd4e52e5657077568982e", func := "stopgate/stopgatelaw05.PoolKeeps", spec := "poolKeeps", unfollowed := true, recurses := true, apart := false }
def PoolKeepsSaid : Prop := poolKeepsRow.holds Try.pinned (OpenSpec.ofChange poolKeepsSpec)

/-- ITS FALSE NEIGHBOUR: 'it returns false'. Refute it at one input. -/
def poolKeepsWrong : ChangeSpec := { name := "poolKeeps", fn := fun _ => fun
  | [d1, d2, d3, d4] => { results := [.lit (.bool false)], args := [d1, d2, d3, d4] }
  | _ => none }
def PoolKeepsWrongFalsely : Prop := poolKeepsRow.holds Try.pinned (OpenSpec.ofChange poolKeepsWrong)

/-- 'stopgatelaw05.PoolTells': WHATEVER THE INPUT: true; the input reads as it did. -/
def poolTellsSpec : ChangeSpec := { name := "poolTells", fn := fun _ => fun
  | [d1, d2] => { results := [.lit (.bool true)], args := [d1, d2] }
  | _ => none }
def poolTellsRow : OpenClaim := { program := "ytdneipibbdadcaa", sum := "f5117cd7118553e82b851b1666f79a29ccfaa7f941dfd4e52e5657077568982e", func := "stopgate/stopgatelaw05.PoolTells", spec := "poolTells", unfollowed := true, recurses := true, apart := false }
def PoolTellsSaid : Prop := poolTellsRow.holds Try.pinned (OpenSpec.ofChange poolTellsSpec)

/-- ITS FALSE NEIGHBOUR: 'it returns false'. Refute it at one input. -/
def poolTellsWrong : ChangeSpec := { name := "poolTells", fn := fun _ => fun
  | [d1, d2] => { results := [.lit (.bool false)], args := [d1, d2] }
  | _ => none }
def PoolTellsWrongFalsely : Prop := poolTellsRow.holds Try.pinned (OpenSpec.ofChange poolTellsWrong)

/-- 'stopgatelaw06.RetireEpochs': WHATEVER THE INPUT: true; the input reads as it did. -/
def retireEpochsSpec : ChangeSpec := { name := "retireEpochs", fn := fun _ => fun
  | [d1, d2, d3] => { results := [.lit (.bool true)], args := [d1, d2, d3] }
  | _ => none }
def retireEpochsRow : OpenClaim := { program := "ytdneipibbdadcaa", sum := "f5117cd7118553e82b851b1666f79a29ccfaa7f941dfd4e52e5657077568982e", func := "stopgate/stopgatelaw06.RetireEpochs", spec := "retireEpochs", unfollowed := true, recurses := true, apart := false }
def RetireEpochsSaid : Prop := retireEpochsRow.holds Try.pinned (OpenSpec.ofChange retireEpochsSpec)

/-- ITS FALSE NEIGHBOUR: 'it returns false'. Refute it at one input. -/
def retireEpochsWrong : ChangeSpec := { name := "retireEpochs", fn := fun _ => fun
  | [d1, d2, d3] => { results := [.lit (.bool false)], args := [d1, d2, d3] }
  | _ => none }
def RetireEpochsWrongFalsely : Prop := retireEpochsRow.holds Try.pinned (OpenSpec.ofChange retireEpochsWrong)

/-- 'stopgatelaw06.RetireLater': WHATEVER THE INPUT: true; the input reads as it did. -/
def retireLaterSpec : ChangeSpec := { name := "retireLater", fn := fun _ => fun
  | [d1, d2, d3, d4] => { results := [.lit (.bool true)], args := [d1, d2, d3, d4] }
  | _ => none }
def retireLaterRow : OpenClaim := { program := "ytdneipibbdadcaa", sum := "f5117cd7118553e82b851b1666f79a29ccfaa7f941dfd4e52e5657077568982e", func := "stopgate/stopgatelaw06.RetireLater", spec := "retireLater", unfollowed := true, recurses := true, apart := false }
def RetireLaterSaid : Prop := retireLaterRow.holds Try.pinned (OpenSpec.ofChange retireLaterSpec)

/-- ITS FALSE NEIGHBOUR: 'it returns false'. Refute it at one input. -/
def retireLaterWrong : ChangeSpec := { name := "retireLater", fn := fun _ => fun
  | [d1, d2, d3, d4] => { results := [.lit (.bool false)], args := [d1, d2, d3, d4] }
  | _ => none }
def RetireLaterWrongFalsely : Prop := retireLaterRow.holds Try.pinned (OpenSpec.ofChange retireLaterWrong)

/-- 'stopgatelaw06.RetireSlots': WHATEVER THE INPUT: true; the input reads as it did. -/
def retireSlotsSpec : ChangeSpec := { name := "retireSlots", fn := fun _ => fun
  | [d1, d2] => { results := [.lit (.bool true)], args := [d1, d2] }
  | _ => none }
def retireSlotsRow : OpenClaim := { program := "ytdneipibbdadcaa", sum := "f5117cd7118553e82b851b1666f79a29ccfaa7f941dfd4e52e5657077568982e", func := "stopgate/stopgatelaw06.RetireSlots", spec := "retireSlots", unfollowed := true, recurses := true, apart := false }
def RetireSlotsSaid : Prop := retireSlotsRow.holds Try.pinned (OpenSpec.ofChange retireSlotsSpec)

/-- ITS FALSE NEIGHBOUR: 'it returns false'. Refute it at one input. -/
def retireSlotsWrong : ChangeSpec := { name := "retireSlots", fn := fun _ => fun
  | [d1, d2] => { results := [.lit (.bool false)], args := [d1, d2] }
  | _ => none }
def RetireSlotsWrongFalsely : Prop := retireSlotsRow.holds Try.pinned (OpenSpec.ofChange retireSlotsWrong)

/-- 'stopgatelaw06.RetireNeeds': WHATEVER THE INPUT: true; the input reads as it did. -/
def retireNeedsSpec : ChangeSpec := { name := "retireNeeds", fn := fun _ => fun
  | [d1, d2, d3] => { results := [.lit (.bool true)], args := [d1, d2, d3] }
  | _ => none }
def retireNeedsRow : OpenClaim := { program := "ytdneipibbdadcaa", sum := "f5117cd7118553e82b851b1666f79a29ccfaa7f941dfd4e52e5657077568982e", func := "stopgate/stopgatelaw06.RetireNeeds", spec := "retireNeeds", unfollowed := true, recurses := true, apart := false }
def RetireNeedsSaid : Prop := retireNeedsRow.holds Try.pinned (OpenSpec.ofChange retireNeedsSpec)

/-- ITS FALSE NEIGHBOUR: 'it returns false'. Refute it at one input. -/
def retireNeedsWrong : ChangeSpec := { name := "retireNeeds", fn := fun _ => fun
  | [d1, d2, d3] => { results := [.lit (.bool false)], args := [d1, d2, d3] }
  | _ => none }
def RetireNeedsWrongFalsely : Prop := retireNeedsRow.holds Try.pinned (OpenSpec.ofChange retireNeedsWrong)

/-- 'stopgatelaw06.RetireFew': WHATEVER THE INPUT: true; the input reads as it did. -/
def retireFewSpec : ChangeSpec := { name := "retireFew", fn := fun _ => fun
  | [d1, d2] => { results := [.lit (.bool true)], args := [d1, d2] }
  | _ => none }
def retireFewRow : OpenClaim := { program := "ytdneipibbdadcaa", sum := "f5117cd7118553e82b851b1666f79a29ccfaa7f941dfd4e52e5657077568982e", func := "stopgate/stopgatelaw06.RetireFew", spec := "retireFew", unfollowed := true, recurses := true, apart := false }
def RetireFewSaid : Prop := retireFewRow.holds Try.pinned (OpenSpec.ofChange retireFewSpec)

/-- ITS FALSE NEIGHBOUR: 'it returns false'. Refute it at one input. -/
def retireFewWrong : ChangeSpec := { name := "retireFew", fn := fun _ => fun
  | [d1, d2] => { results := [.lit (.bool false)], args := [d1, d2] }
  | _ => none }
def RetireFewWrongFalsely : Prop := retireFewRow.holds Try.pinned (OpenSpec.ofChange retireFewWrong)

/-- 'stopgatelaw17.TeeTells': WHATEVER THE INPUT: true; the input reads as it did. -/
def teeTellsSpec : ChangeSpec := { name := "teeTells", fn := fun _ => fun
  | [d1, d2, d3, d4] => { results := [.lit (.bool true)], args := [d1, d2, d3, d4] }
  | _ => none }
def teeTellsRow : OpenClaim := { program := "ytdneipibbdadcaa", sum := "f5117cd7118553e82b851b1666f79a29ccfaa7f941dfd4e52e5657077568982e", func := "stopgate/stopgatelaw17.TeeTells", spec := "teeTells", apart := false }
def TeeTellsSaid : Prop := teeTellsRow.holds Try.pinned (OpenSpec.ofChange teeTellsSpec)

/-- ITS FALSE NEIGHBOUR: 'it returns false'. Refute it at one input. -/
def teeTellsWrong : ChangeSpec := { name := "teeTells", fn := fun _ => fun
  | [d1, d2, d3, d4] => { results := [.lit (.bool false)], args := [d1, d2, d3, d4] }
  | _ => none }
def TeeTellsWrongFalsely : Prop := teeTellsRow.holds Try.pinned (OpenSpec.ofChange teeTellsWrong)

/-- 'stopgatelaw17.TeeCopies': WHATEVER THE INPUT: true; the input reads as it did. -/
def teeCopiesSpec : ChangeSpec := { name := "teeCopies", fn := fun _ => fun
  | [d1, d2, d3] => { results := [.lit (.bool true)], args := [d1, d2, d3] }
  | _ => none }
def teeCopiesRow : OpenClaim := { program := "ytdneipibbdadcaa", sum := "f5117cd7118553e82b851b1666f79a29ccfaa7f941dfd4e52e5657077568982e", func := "stopgate/stopgatelaw17.TeeCopies", spec := "teeCopies", apart := false }
def TeeCopiesSaid : Prop := teeCopiesRow.holds Try.pinned (OpenSpec.ofChange teeCopiesSpec)

/-- ITS FALSE NEIGHBOUR: 'it returns false'. Refute it at one input. -/
def teeCopiesWrong : ChangeSpec := { name := "teeCopies", fn := fun _ => fun
  | [d1, d2, d3] => { results := [.lit (.bool false)], args := [d1, d2, d3] }
  | _ => none }
def TeeCopiesWrongFalsely : Prop := teeCopiesRow.holds Try.pinned (OpenSpec.ofChange teeCopiesWrong)

/-- 'stopgatelaw17.TeeAgain': WHATEVER THE INPUT: true; the input reads as it did. -/
def teeAgainSpec : ChangeSpec := { name := "teeAgain", fn := fun _ => fun
  | [d1, d2] => { results := [.lit (.bool true)], args := [d1, d2] }
  | _ => none }
def teeAgainRow : OpenClaim := { program := "ytdneipibbdadcaa", sum := "f5117cd7118553e82b851b1666f79a29ccfaa7f941dfd4e52e5657077568982e", func := "stopgate/stopgatelaw17.TeeAgain", spec := "teeAgain", apart := false }
def TeeAgainSaid : Prop := teeAgainRow.holds Try.pinned (OpenSpec.ofChange teeAgainSpec)

/-- ITS FALSE NEIGHBOUR: 'it returns false'. Refute it at one input. -/
def teeAgainWrong : ChangeSpec := { name := "teeAgain", fn := fun _ => fun
  | [d1, d2] => { results := [.lit (.bool false)], args := [d1, d2] }
  | _ => none }
def TeeAgainWrongFalsely : Prop := teeAgainRow.holds Try.pinned (OpenSpec.ofChange teeAgainWrong)

/- THE SECOND FORM. 'bulk': how many values and letters a reading holds, each counted each time it is reached (what is shared counts as often as it is met; a slice's spare places count too). A statement '..UptoSaid' is the law's where the arguments, and the package variables that the reading takes, are together of bulk at most 1048576: NARROWER than '..Said'. Prove '..Said' where nothing that the law and all that it calls make is longer than what came in: it says more and counts as full. Else prove '..UptoSaid'. A law counts once. -/
mutual
def uptoBulk {H : Type} : DataW H → Nat
  | .lit (.string bytes) => bytes.length + 1
  | .lit _ => 1
  | .nil => 1
  | .ptr d => uptoBulk d + 1
  | .slice elems spare => uptoBulkAll elems + uptoBulkAll spare + 1
  | .agg parts => uptoBulkAll parts + 1
  | .iface _ d => uptoBulk d + 1
  | .map entries => uptoBulkEntries entries + 1
  | .held _ => 1
def uptoBulkAll {H : Type} : List (DataW H) → Nat
  | [] => 0
  | d :: r => uptoBulk d + uptoBulkAll r
def uptoBulkEntries {H : Type} : List (Lit × DataW H) → Nat
  | [] => 0
  | x :: r => uptoBulkEntry x + uptoBulkEntries r
def uptoBulkEntry {H : Type} : Lit × DataW H → Nat
  | (.string bytes, d) => bytes.length + uptoBulk d + 1
  | (_, d) => uptoBulk d + 1
 end
def uptoSmall : (H : Type) → List (DataW H) → Bool := fun _ ds => decide (uptoBulkAll ds ≤ 1048576)
def OpenSpec.upto (s : _root_.Go.ChangeSpec) : _root_.Go.OpenSpec := { _root_.Go.OpenSpec.ofChange s with cond := some uptoSmall }

/-- 'stopgatelaw08.FifoApplies', WHERE WHAT IT READS IS OF BULK AT MOST 1048576: true; the input reads as it did. -/
def fifoAppliesUptoRow : OpenClaim := { program := "ytdneipibbdadcaa", sum := "f5117cd7118553e82b851b1666f79a29ccfaa7f941dfd4e52e5657077568982e", func := "stopgate/stopgatelaw08.FifoApplies", spec := "fifoApplies", apart := false, narrowed := true }
def FifoAppliesUptoSaid : Prop := fifoAppliesUptoRow.holds Try.pinned (OpenSpec.upto fifoAppliesSpec)

/-- 'stopgatelaw08.FifoOrder', WHERE WHAT IT READS IS OF BULK AT MOST 1048576: true; the input reads as it did. -/
def fifoOrderUptoRow : OpenClaim := { program := "ytdneipibbdadcaa", sum := "f5117cd7118553e82b851b1666f79a29ccfaa7f941dfd4e52e5657077568982e", func := "stopgate/stopgatelaw08.FifoOrder", spec := "fifoOrder", apart := false, narrowed := true }
def FifoOrderUptoSaid : Prop := fifoOrderUptoRow.holds Try.pinned (OpenSpec.upto fifoOrderSpec)

/-- 'stopgatelaw08.FifoSegments', WHERE WHAT IT READS IS OF BULK AT MOST 1048576: true; the input reads as it did. -/
def fifoSegmentsUptoRow : OpenClaim := { program := "ytdneipibbdadcaa", sum := "f5117cd7118553e82b851b1666f79a29ccfaa7f941dfd4e52e5657077568982e", func := "stopgate/stopgatelaw08.FifoSegments", spec := "fifoSegments", unfollowed := true, recurses := true, apart := false, narrowed := true }
def FifoSegmentsUptoSaid : Prop := fifoSegmentsUptoRow.holds Try.pinned (OpenSpec.upto fifoSegmentsSpec)

/-- 'stopgatelaw09.LifoApplies', WHERE WHAT IT READS IS OF BULK AT MOST 1048576: true; the input reads as it did. -/
def lifoAppliesUptoRow : OpenClaim := { program := "ytdneipibbdadcaa", sum := "f5117cd7118553e82b851b1666f79a29ccfaa7f941dfd4e52e5657077568982e", func := "stopgate/stopgatelaw09.LifoApplies", spec := "lifoApplies", apart := false, narrowed := true }
def LifoAppliesUptoSaid : Prop := lifoAppliesUptoRow.holds Try.pinned (OpenSpec.upto lifoAppliesSpec)

/-- 'stopgatelaw09.LifoUndoes', WHERE WHAT IT READS IS OF BULK AT MOST 1048576: true; the input reads as it did. -/
def lifoUndoesUptoRow : OpenClaim := { program := "ytdneipibbdadcaa", sum := "f5117cd7118553e82b851b1666f79a29ccfaa7f941dfd4e52e5657077568982e", func := "stopgate/stopgatelaw09.LifoUndoes", spec := "lifoUndoes", apart := false, narrowed := true }
def LifoUndoesUptoSaid : Prop := lifoUndoesUptoRow.holds Try.pinned (OpenSpec.upto lifoUndoesSpec)

/-- 'stopgatelaw09.LifoTurned', WHERE WHAT IT READS IS OF BULK AT MOST 1048576: true; the input reads as it did. -/
def lifoTurnedUptoRow : OpenClaim := { program := "ytdneipibbdadcaa", sum := "f5117cd7118553e82b851b1666f79a29ccfaa7f941dfd4e52e5657077568982e", func := "stopgate/stopgatelaw09.LifoTurned", spec := "lifoTurned", apart := false, narrowed := true }
def LifoTurnedUptoSaid : Prop := lifoTurnedUptoRow.holds Try.pinned (OpenSpec.upto lifoTurnedSpec)

/-- 'stopgatelaw05.PoolTakes', WHERE WHAT IT READS IS OF BULK AT MOST 1048576: true; the input reads as it did. -/
def poolTakesUptoRow : OpenClaim := { program := "ytdneipibbdadcaa", sum := "f5117cd7118553e82b851b1666f79a29ccfaa7f941dfd4e52e5657077568982e", func := "stopgate/stopgatelaw05.PoolTakes", spec := "poolTakes", unfollowed := true, recurses := true, apart := false, narrowed := true }
def PoolTakesUptoSaid : Prop := poolTakesUptoRow.holds Try.pinned (OpenSpec.upto poolTakesSpec)

/-- 'stopgatelaw05.PoolMoves', WHERE WHAT IT READS IS OF BULK AT MOST 1048576: true; the input reads as it did. -/
def poolMovesUptoRow : OpenClaim := { program := "ytdneipibbdadcaa", sum := "f5117cd7118553e82b851b1666f79a29ccfaa7f941dfd4e52e5657077568982e", func := "stopgate/stopgatelaw05.PoolMoves", spec := "poolMoves", unfollowed := true, recurses := true, apart := false, narrowed := true }
def PoolMovesUptoSaid : Prop := poolMovesUptoRow.holds Try.pinned (OpenSpec.upto poolMovesSpec)

/-- 'stopgatelaw05.PoolBack', WHERE WHAT IT READS IS OF BULK AT MOST 1048576: true; the input reads as it did. -/
def poolBackUptoRow : OpenClaim := { program := "ytdneipibbdadcaa", sum := "f5117cd7118553e82b851b1666f79a29ccfaa7f941dfd4e52e5657077568982e", func := "stopgate/stopgatelaw05.PoolBack", spec := "poolBack", unfollowed := true, recurses := true, apart := false, narrowed := true }
def PoolBackUptoSaid : Prop := poolBackUptoRow.holds Try.pinned (OpenSpec.upto poolBackSpec)

/-- 'stopgatelaw05.PoolKeeps', WHERE WHAT IT READS IS OF BULK AT MOST 1048576: true; the input reads as it did. -/
def poolKeepsUptoRow : OpenClaim := { program := "ytdneipibbdadcaa", sum := "f5117cd7118553e82b851b1666f79a29ccfaa7f941dfd4e52e5657077568982e", func := "stopgate/stopgatelaw05.PoolKeeps", spec := "poolKeeps", unfollowed := true, recurses := true, apart := false, narrowed := true }
def PoolKeepsUptoSaid : Prop := poolKeepsUptoRow.holds Try.pinned (OpenSpec.upto poolKeepsSpec)

/-- 'stopgatelaw05.PoolTells', WHERE WHAT IT READS IS OF BULK AT MOST 1048576: true; the input reads as it did. -/
def poolTellsUptoRow : OpenClaim := { program := "ytdneipibbdadcaa", sum := "f5117cd7118553e82b851b1666f79a29ccfaa7f941dfd4e52e5657077568982e", func := "stopgate/stopgatelaw05.PoolTells", spec := "poolTells", unfollowed := true, recurses := true, apart := false, narrowed := true }
def PoolTellsUptoSaid : Prop := poolTellsUptoRow.holds Try.pinned (OpenSpec.upto poolTellsSpec)

/-- 'stopgatelaw06.RetireEpochs', WHERE WHAT IT READS IS OF BULK AT MOST 1048576: true; the input reads as it did. -/
def retireEpochsUptoRow : OpenClaim := { program := "ytdneipibbdadcaa", sum := "f5117cd7118553e82b851b1666f79a29ccfaa7f941dfd4e52e5657077568982e", func := "stopgate/stopgatelaw06.RetireEpochs", spec := "retireEpochs", unfollowed := true, recurses := true, apart := false, narrowed := true }
def RetireEpochsUptoSaid : Prop := retireEpochsUptoRow.holds Try.pinned (OpenSpec.upto retireEpochsSpec)

/-- 'stopgatelaw06.RetireLater', WHERE WHAT IT READS IS OF BULK AT MOST 1048576: true; the input reads as it did. -/
def retireLaterUptoRow : OpenClaim := { program := "ytdneipibbdadcaa", sum := "f5117cd7118553e82b851b1666f79a29ccfaa7f941dfd4e52e5657077568982e", func := "stopgate/stopgatelaw06.RetireLater", spec := "retireLater", unfollowed := true, recurses := true, apart := false, narrowed := true }
def RetireLaterUptoSaid : Prop := retireLaterUptoRow.holds Try.pinned (OpenSpec.upto retireLaterSpec)

/-- 'stopgatelaw06.RetireSlots', WHERE WHAT IT READS IS OF BULK AT MOST 1048576: true; the input reads as it did. -/
def retireSlotsUptoRow : OpenClaim := { program := "ytdneipibbdadcaa", sum := "f5117cd7118553e82b851b1666f79a29ccfaa7f941dfd4e52e5657077568982e", func := "stopgate/stopgatelaw06.RetireSlots", spec := "retireSlots", unfollowed := true, recurses := true, apart := false, narrowed := true }
def RetireSlotsUptoSaid : Prop := retireSlotsUptoRow.holds Try.pinned (OpenSpec.upto retireSlotsSpec)

/-- 'stopgatelaw06.RetireNeeds', WHERE WHAT IT READS IS OF BULK AT MOST 1048576: true; the input reads as it did. -/
def retireNeedsUptoRow : OpenClaim := { program := "ytdneipibbdadcaa", sum := "f5117cd7118553e82b851b1666f79a29ccfaa7f941dfd4e52e5657077568982e", func := "stopgate/stopgatelaw06.RetireNeeds", spec := "retireNeeds", unfollowed := true, recurses := true, apart := false, narrowed := true }
def RetireNeedsUptoSaid : Prop := retireNeedsUptoRow.holds Try.pinned (OpenSpec.upto retireNeedsSpec)

/-- 'stopgatelaw06.RetireFew', WHERE WHAT IT READS IS OF BULK AT MOST 1048576: true; the input reads as it did. -/
def retireFewUptoRow : OpenClaim := { program := "ytdneipibbdadcaa", sum := "f5117cd7118553e82b851b1666f79a29ccfaa7f941dfd4e52e5657077568982e", func := "stopgate/stopgatelaw06.RetireFew", spec := "retireFew", unfollowed := true, recurses := true, apart := false, narrowed := true }
def RetireFewUptoSaid : Prop := retireFewUptoRow.holds Try.pinned (OpenSpec.upto retireFewSpec)

/-- 'stopgatelaw17.TeeTells', WHERE WHAT IT READS IS OF BULK AT MOST 1048576: true; the input reads as it did. -/
def teeTellsUptoRow : OpenClaim := { program := "ytdneipibbdadcaa", sum := "f5117cd7118553e82b851b1666f79a29ccfaa7f941dfd4e52e5657077568982e", func := "stopgate/stopgatelaw17.TeeTells", spec := "teeTells", apart := false, narrowed := true }
def TeeTellsUptoSaid : Prop := teeTellsUptoRow.holds Try.pinned (OpenSpec.upto teeTellsSpec)

/-- 'stopgatelaw17.TeeCopies', WHERE WHAT IT READS IS OF BULK AT MOST 1048576: true; the input reads as it did. -/
def teeCopiesUptoRow : OpenClaim := { program := "ytdneipibbdadcaa", sum := "f5117cd7118553e82b851b1666f79a29ccfaa7f941dfd4e52e5657077568982e", func := "stopgate/stopgatelaw17.TeeCopies", spec := "teeCopies", apart := false, narrowed := true }
def TeeCopiesUptoSaid : Prop := teeCopiesUptoRow.holds Try.pinned (OpenSpec.upto teeCopiesSpec)

/-- 'stopgatelaw17.TeeAgain', WHERE WHAT IT READS IS OF BULK AT MOST 1048576: true; the input reads as it did. -/
def teeAgainUptoRow : OpenClaim := { program := "ytdneipibbdadcaa", sum := "f5117cd7118553e82b851b1666f79a29ccfaa7f941dfd4e52e5657077568982e", func := "stopgate/stopgatelaw17.TeeAgain", spec := "teeAgain", apart := false, narrowed := true }
def TeeAgainUptoSaid : Prop := teeAgainUptoRow.holds Try.pinned (OpenSpec.upto teeAgainSpec)

end Rows
end Go.Proofs.Ytdneipibbdadcaa
