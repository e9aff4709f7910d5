/- What a small bulk tells of an argument. -/
import Derived.Test.YtijaphlmomcbfaaTData
namespace Go.Proofs.Ytijaphlmomcbfaa
set_option linter.unusedVariables false
set_option linter.unusedSimpArgs false
set_option linter.unnecessarySimpa false
theorem pool_small {p : DPool} {n : Nat} (h : bPo p ≤ n) : p.free.length + p.old.length + 2 ≤ n := by have h1 := bL_le (b := bSl) (fun a => by simp [bSl, b1]) p.free; have h2 := bL_le (b := bOd) (fun a => by simp [bOd, b1]) p.old; simp only [bPo] at h; omega
end Go.Proofs.Ytijaphlmomcbfaa
