/- Joined: XTShutR, XTHallR, XTHallH. -/
import Derived.Test.YtccefppppedgkaaGreatKHzc
set_option linter.unusedVariables false
set_option linter.unusedSimpArgs false
set_option linter.unnecessarySimpa false
set_option maxRecDepth 100000
set_option maxHeartbeats 64000000
namespace Go.Proofs.YtccefppppedgkaaGreat
open Go.RowKit
section
attribute [local irreducible] AL AW RG Fin C Cd Cio AI AF AO
section
attribute [local simp] DR CQ
end
end
end Go.Proofs.YtccefppppedgkaaGreat
