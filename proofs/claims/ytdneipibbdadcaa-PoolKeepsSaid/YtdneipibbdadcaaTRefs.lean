/- Names of nodes, over trees. -/
import Derived.Test.YtdneipibbdadcaaTAdapt
import Derived.Test.YtdneipibbdadcaaRefB
import Derived.Test.YtdneipibbdadcaaTEnc
namespace Go.Proofs.Ytdneipibbdadcaa
set_option linter.unusedVariables false
set_option linter.unusedSimpArgs false
set_option linter.unnecessarySimpa false
open Go.RowKit
abbrev u64 (x : Int) : AV := .t (.v (.int .u64 x))
theorem good_c (i t : Int) : Cd Try.prog 122 [.agg [i64 i, i64 t]] (bo (good i t)) [] := Cd.of (good_any i t) rfl (.v rfl)
theorem goodR_c (i t : Int) : Cd Try.prog 76 [.agg [i64 i, i64 t]] (bo (good i t)) [] := Cd.of (good_ref i t) rfl (.v rfl)
theorem word_c (i t : Int) : Cd Try.prog 110 [.agg [i64 i, i64 t]] (u64 (word i t)) [] := Cd.of (word_any i t) rfl (.v rfl)
theorem wordR_c (i t : Int) : Cd Try.prog 77 [.agg [i64 i, i64 t]] (u64 (word i t)) [] := Cd.of (word_ref i t) rfl (.v rfl)
theorem read_c (x : Int) (h0 : 0 ≤ x) (h1 : x < 18446744073709551616) : Cd Try.prog 112 [u64 x] (.tup [.agg [i64 (rdI x), i64 (rdT x)], bo (rdOk x)]) [] :=
  Cd.of (vs := [.int .u64 x]) (read_any x h0 h1) rfl (.tupL (.cons (.aggL (.cons (.v rfl) (.cons (.v rfl) .nil)) (by simp [Value.oneCell'])) (.cons (.v rfl) .nil)))
theorem readR_c (x : Int) (h0 : 0 ≤ x) (h1 : x < 18446744073709551616) : Cd Try.prog 113 [u64 x] (.tup [.agg [i64 (rdI x), i64 (rdT x)], bo (rdOk x)]) [] :=
  Cd.of (vs := [.int .u64 x]) (read_ref x h0 h1) rfl (.tupL (.cons (.aggL (.cons (.v rfl) (.cons (.v rfl) .nil)) (by simp [Value.oneCell'])) (.cons (.v rfl) .nil)))
theorem next_c (i t last : Int) : Cd Try.prog 100 [.agg [i64 i, i64 t], i64 last] (.tup [.agg [i64 (nxI i t last), i64 (nxT i t last)], bo (nxOk i t last)]) [] :=
  Cd.of (vs := [.agg #[.int .i64 i, .int .i64 t], .int .i64 last]) (next_any i t last) rfl (.tupL (.cons (.aggL (.cons (.v rfl) (.cons (.v rfl) .nil)) (by simp [Value.oneCell'])) (.cons (.v rfl) .nil)))
theorem nextR_c (i t last : Int) : Cd Try.prog 102 [.agg [i64 i, i64 t], i64 last] (.tup [.agg [i64 (nxI i t last), i64 (nxT i t last)], bo (nxOk i t last)]) [] :=
  Cd.of (vs := [.agg #[.int .i64 i, .int .i64 t], .int .i64 last]) (next_ref i t last) rfl (.tupL (.cons (.aggL (.cons (.v rfl) (.cons (.v rfl) .nil)) (by simp [Value.oneCell'])) (.cons (.v rfl) .nil)))
end Go.Proofs.Ytdneipibbdadcaa
