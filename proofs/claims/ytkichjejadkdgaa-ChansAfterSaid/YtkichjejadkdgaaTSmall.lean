/- What a small bulk tells of an argument. -/
import Derived.Test.YtkichjejadkdgaaTData
namespace Go.Proofs.Ytkichjejadkdgaa
set_option linter.unusedVariables false
set_option linter.unusedSimpArgs false
set_option linter.unnecessarySimpa false
end Go.Proofs.Ytkichjejadkdgaa
