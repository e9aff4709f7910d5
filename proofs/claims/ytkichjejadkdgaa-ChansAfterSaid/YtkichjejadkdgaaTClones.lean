/- slices.Clone of rows of the program's structs. -/
import Derived.Test.YtkichjejadkdgaaTData
namespace Go.Proofs.Ytkichjejadkdgaa
set_option linter.unusedVariables false
set_option linter.unusedSimpArgs false
set_option linter.unnecessarySimpa false
open Go.RowKit
set_option maxRecDepth 100000
set_option maxHeartbeats 4000000
theorem clone_Cs (l : List DCase) (h : l.length ≤ 5864062014805) : Cd Try.prog 87 [.ln (l.map tCs)] (.sl 0 0 l.length) [.row 0 61 3 (l.map tCs)] := by
  refine Cd.enter' Try.func87 rfl Try.ntmps87 rfl ?_
  repeat' (first | ((with_reducible refine kAL ?_); (first | (refine kL 1 rfl ?_; (first | refine A_move rfl rfl _ (.inr rfl) (y := .sl _ _ _) rfl ?_ | refine A_move rfl rfl _ (.inr rfl) (y := .nl) rfl ?_)) | refine A_move rfl rfl _ (.inl rfl) (y := .ln _) rfl ?_ | (refine kL 1545 rfl ?_; (refine A_eqnil rfl rfl 48 _ _ rfl ud48 rfl (fun b hb => ?_))) | (refine kL 1551 rfl ?_; refine A_lit0 rfl rfl 48 rfl ud48 inf61 ?_) | (refine kL 12 rfl ?_; (refine A_append_nl rfl rfl _ _ 48 rfl ud48 inf61 rfl rfl (by exact .ln (by exact each_map (fun _ => rfl))) qB qB (by ((try simp only [List.take_zero, List.take_succ_cons, List.drop_zero, List.drop_succ_cons, List.nil_append, List.cons_append, List.append_nil, List.length_cons, List.length_nil, List.set_cons_zero, List.set_cons_succ, List.map_cons, List.map_nil, List.take_nil, List.drop_nil, Nat.zero_add, Nat.add_zero, Nat.reduceAdd, Nat.reduceSub]); rfl)) (.push qL qN) qS ?_)) | refine AL.nil ?_)) | with_reducible refine AW.at_region _ ?_ | (with_reducible (first | refine wk0 ?_ | refine wk2 ?_ | refine wk3 ?_ | refine wk9 ?_ | refine wkb ?_ | refine wkd ?_)) | refine kcc rfl (fun hc => ?_) (fun hc => ?_))
  · have hl : l = [] := by simpa using hb hc
    subst hl
    refine Fin.wk (Wk.own 2 rfl 61 3 (.push rfl rfl)) ?_
    exact Fin.q Try.results87 (.cons (.tmp rfl) .nil) [0]
  · exact Fin.q Try.results87 (.cons (.tmp rfl) .nil) [0]
theorem clone_Wt (l : List DWait) (h : l.length ≤ 2932031007402) : Cd Try.prog 99 [.ln (l.map tWt)] (.sl 0 0 l.length) [.row 0 50 4 (l.map tWt)] := by
  refine Cd.enter' Try.func99 rfl Try.ntmps99 rfl ?_
  repeat' (first | ((with_reducible refine kAL ?_); (first | (refine kL 1 rfl ?_; (first | refine A_move rfl rfl _ (.inr rfl) (y := .sl _ _ _) rfl ?_ | refine A_move rfl rfl _ (.inr rfl) (y := .nl) rfl ?_)) | refine A_move rfl rfl _ (.inl rfl) (y := .ln _) rfl ?_ | (refine kL 1513 rfl ?_; (refine A_eqnil rfl rfl 47 _ _ rfl ud47 rfl (fun b hb => ?_))) | (refine kL 1519 rfl ?_; refine A_lit0 rfl rfl 47 rfl ud47 inf50 ?_) | (refine kL 12 rfl ?_; (refine A_append_nl rfl rfl _ _ 47 rfl ud47 inf50 rfl rfl (by exact .ln (by exact each_map (fun _ => rfl))) qB qB (by ((try simp only [List.take_zero, List.take_succ_cons, List.drop_zero, List.drop_succ_cons, List.nil_append, List.cons_append, List.append_nil, List.length_cons, List.length_nil, List.set_cons_zero, List.set_cons_succ, List.map_cons, List.map_nil, List.take_nil, List.drop_nil, Nat.zero_add, Nat.add_zero, Nat.reduceAdd, Nat.reduceSub]); rfl)) (.push qL qN) qS ?_)) | refine AL.nil ?_)) | with_reducible refine AW.at_region _ ?_ | (with_reducible (first | refine wk0 ?_ | refine wk2 ?_ | refine wk3 ?_ | refine wk9 ?_ | refine wkb ?_ | refine wkd ?_)) | refine kcc rfl (fun hc => ?_) (fun hc => ?_))
  · have hl : l = [] := by simpa using hb hc
    subst hl
    refine Fin.wk (Wk.own 2 rfl 50 4 (.push rfl rfl)) ?_
    exact Fin.q Try.results99 (.cons (.tmp rfl) .nil) [0]
  · exact Fin.q Try.results99 (.cons (.tmp rfl) .nil) [0]

end Go.Proofs.Ytkichjejadkdgaa
