/- How the program's data stand as trees; slices.Clone. -/
import Derived.Test.YtijaphlmomcbfaaLC
import Derived.Test.YtijaphlmomcbfaaTypes
namespace Go.Proofs.Ytijaphlmomcbfaa
set_option linter.unusedVariables false
set_option linter.unusedSimpArgs false
set_option linter.unnecessarySimpa false
open Go.RowKit
set_option maxHeartbeats 32000000
attribute [local irreducible] AL AW RG Fin C Cd Cio thenQ blockQ retQ
theorem mixed : Try.prog.follows .mixedOrders = true := by kernel_rfl
abbrev bo (b : Bool) : AV := .t (.v (.bool b))
abbrev i64 (x : Int) : AV := .t (.v (.int .i64 x))
def tI (x : Int) : List Tr := [.v (.int .i64 x)]
def tU (x : Int) : List Tr := [.v (.int .u64 x)]
structure Rst where
  seq : Int
  cas : Int
  code : Int
  value : Int
  deriving DecidableEq, Inhabited
def tR (r : Rst) : List Tr := [.v (.int .i64 r.seq), .v (.int .i64 r.cas), .v (.int .i64 r.code), .v (.int .i64 r.value)]
def setR (d : List Rst) (t : Int) (r : Rst) : List Rst := if 0 ≤ t ∧ t < d.length then d.set t.toNat r else d
theorem setR_yes {d : List Rst} {t : Int} {r : Rst} (h0 : 0 ≤ t) (h : t < d.length) : setR d t r = d.set t.toNat r := if_pos ⟨h0, h⟩
theorem setR_no {d : List Rst} {t : Int} {r : Rst} (h : ¬ (0 ≤ t ∧ t < d.length)) : setR d t r = d := if_neg h
theorem setR_len (d : List Rst) (t : Int) (r : Rst) : (setR d t r).length = d.length := by unfold setR; split <;> simp
end Go.Proofs.Ytijaphlmomcbfaa
