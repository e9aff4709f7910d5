/- Blocks of proof that stand in many places, as lemmas: the block is what is taken when nothing is given. No program in sight. -/
import Derived.Test.YtkichjejadkdgaaTWalk
import Derived.Test.YtkichjejadkdgaaTFun
import Derived.Test.YtkichjejadkdgaaTIo
namespace Go.Proofs.Ytkichjejadkdgaa
set_option linter.unusedVariables false
set_option linter.unusedSimpArgs false
set_option linter.unnecessarySimpa false
open Go.RowKit
theorem qN {P : Prop} (h : P := by (try simp only [List.take_zero, List.take_succ_cons, List.drop_zero, List.drop_succ_cons, List.nil_append, List.cons_append, List.append_nil, List.length_cons, List.length_nil, List.set_cons_zero, List.set_cons_succ, List.map_cons, List.map_nil, List.take_nil, List.drop_nil, Nat.zero_add, Nat.add_zero, Nat.reduceAdd, Nat.reduceSub]); rfl) : P := h
theorem qU {P : Prop} (h : P := by (try simp only [upA, upF, upO, shiftG, List.map_cons, List.map_nil, Nat.reduceAdd, Nat.zero_add, Nat.add_zero]); rfl) : P := h
theorem qL {P : Prop} (h : P := by (try simp only [List.length_cons, List.length_nil, Nat.zero_add, Nat.reduceAdd]); rfl) : P := h
theorem qS {P : Prop} (h : P := by (try simp only [List.length_map, List.length_cons, List.length_nil, Nat.zero_add, Nat.add_zero, Nat.reduceAdd]); rfl) : P := h
theorem qB {P : Prop} (h : P := by (try simp only [List.length_map, List.length_cons, List.length_nil, List.length_append, maxLen]); omega) : P := h
theorem qT {P : Prop} (h : P := by exact congrArg some (decide_eq_true (by omega))) : P := h
theorem qF {P : Prop} (h : P := by exact congrArg some (decide_eq_false (by omega))) : P := h
end Go.Proofs.Ytkichjejadkdgaa
