/- Rows of calls that wait. -/
import Derived.Test.YtijaphlmomcbfaaTData
import Derived.Test.YtijaphlmomcbfaaLC
namespace Go.Proofs.Ytijaphlmomcbfaa
set_option linter.unusedVariables false
set_option linter.unusedSimpArgs false
set_option linter.unnecessarySimpa false
open Go.RowKit
set_option maxRecDepth 100000
/-- rows of calls that wait, which a machine can hold -/
def okW (l : List DWait) : Prop := l.length ≤ 2932031007402 ∧ ∀ w ∈ l, w.cases.length ≤ 5864062014805
theorem okW.at {l : List DWait} (h : okW l) {q : Nat} {a : DWait} (ha : l[q]? = some a) : a.cases.length ≤ 5864062014805 := h.2 a (List.mem_of_getElem? ha)
theorem getD_of {α : Type} {l : List α} {n : Nat} {a d : α} (h : l[n]? = some a) : l.getD n d = a := by rw [List.getD_eq_getElem?_getD, h]; rfl
end Go.Proofs.Ytijaphlmomcbfaa
