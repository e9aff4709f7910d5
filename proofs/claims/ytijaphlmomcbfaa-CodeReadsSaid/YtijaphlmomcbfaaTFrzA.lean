/- A row that is lent at the top is one that nobody writes. No program in sight. -/
import Derived.Test.YtijaphlmomcbfaaLC
namespace Go.Proofs.Ytijaphlmomcbfaa
set_option linter.unusedVariables false
set_option linter.unusedSimpArgs false
set_option linter.unnecessarySimpa false
open Go.RowKit
theorem val_frz {Kn : Nat → Nat → Prop} {ρ : Rho} {w : World} {Z Y : Nat → Prop} {els : List (List Tr)} {v : Value} (h : Val Kn ρ w Z Y (.ln els) v) (hz : ∀ b, Y b → Z b) : Val Kn ρ w Z Y (.t (.lst els)) v := by
  cases h with
  | ln hr hz' hn he => exact .t (Frz.shut hn hr (fun hne => hz _ (hz' hne)) he)
end Go.Proofs.Ytijaphlmomcbfaa
