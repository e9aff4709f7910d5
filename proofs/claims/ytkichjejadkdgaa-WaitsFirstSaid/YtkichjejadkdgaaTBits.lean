/- Words, bit by bit: shifts by a number, masks, and words put together, as sums. No program in sight. -/
import Derived.Test.YtkichjejadkdgaaTScal
namespace Go.Proofs.Ytkichjejadkdgaa
set_option linter.unusedVariables false
set_option linter.unusedSimpArgs false
set_option linter.unnecessarySimpa false
open Go.RowKit
theorem fdiv_lit {a b m : Int} {n : Nat} (h : (2 : Int) ^ (min b.toNat n) = m) (hm : 0 ≤ m) : a.fdiv ((2 : Int) ^ (min b.toNat n)) = a / m := by rw [h]; exact Int.fdiv_eq_ediv_of_nonneg _ hm
theorem shl_lit {a b m : Int} {n : Nat} {k : IntKind} (h : (2 : Int) ^ (min b.toNat n) = m) (hw : k.wrap (a * m) = a * m) : k.wrap (a * (2 : Int) ^ (min b.toNat n)) = a * m := by rw [h]; exact hw
end Go.Proofs.Ytkichjejadkdgaa
