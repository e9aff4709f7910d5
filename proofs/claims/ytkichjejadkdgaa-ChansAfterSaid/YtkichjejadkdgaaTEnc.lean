/- How the program's data stand as trees; slices.Clone. -/
import Derived.Test.YtkichjejadkdgaaLC
import Derived.Test.YtkichjejadkdgaaTypes
namespace Go.Proofs.Ytkichjejadkdgaa
set_option linter.unusedVariables false
set_option linter.unusedSimpArgs false
set_option linter.unnecessarySimpa false
open Go.RowKit
set_option maxHeartbeats 32000000
attribute [local irreducible] AL AW RG Fin C Cd Cio thenQ blockQ retQ
theorem mixed : Try.prog.follows .mixedOrders = true := by kernel_rfl
abbrev bo (b : Bool) : AV := .t (.v (.bool b))
abbrev i64 (x : Int) : AV := .t (.v (.int .i64 x))
def tI (x : Int) : List Tr := [.v (.int .i64 x)]
def tU (x : Int) : List Tr := [.v (.int .u64 x)]
structure Rst where
  seq : Int
  cas : Int
  code : Int
  value : Int
  deriving DecidableEq, Inhabited
def tR (r : Rst) : List Tr := [.v (.int .i64 r.seq), .v (.int .i64 r.cas), .v (.int .i64 r.code), .v (.int .i64 r.value)]
def setR (d : List Rst) (t : Int) (r : Rst) : List Rst := if 0 ≤ t ∧ t < d.length then d.set t.toNat r else d
theorem setR_yes {d : List Rst} {t : Int} {r : Rst} (h0 : 0 ≤ t) (h : t < d.length) : setR d t r = d.set t.toNat r := if_pos ⟨h0, h⟩
theorem setR_no {d : List Rst} {t : Int} {r : Rst} (h : ¬ (0 ≤ t ∧ t < d.length)) : setR d t r = d := if_neg h
theorem setR_len (d : List Rst) (t : Int) (r : Rst) : (setR d t r).length = d.length := by unfold setR; split <;> simp
set_option maxRecDepth 100000 in
set_option maxHeartbeats 4000000 in
theorem clone_I (l : List Int) (h : l.length ≤ 17592186044416) : Cd Try.prog 146 [.ln (l.map tI)] (.sl 0 0 l.length) [.row 0 3 1 (l.map tI)] := by
  refine Cd.enter' Try.func146 rfl Try.ntmps146 rfl ?_
  repeat' (first | ((with_reducible refine kAL ?_); (first | (refine kL 1 rfl ?_; (first | refine A_move rfl rfl _ (.inr rfl) (y := .sl _ _ _) rfl ?_ | refine A_move rfl rfl _ (.inr rfl) (y := .nl) rfl ?_)) | refine A_move rfl rfl _ (.inl rfl) (y := .ln _) rfl ?_ | (refine kL 1417 rfl ?_; (refine A_eqnil rfl rfl 44 _ _ rfl ud44 rfl (fun b hb => ?_))) | (refine kL 1423 rfl ?_; refine A_lit0 rfl rfl 44 rfl ud44 inf3 ?_) | (refine kL 12 rfl ?_; (refine A_append_nl rfl rfl _ _ 44 rfl ud44 inf3 rfl rfl (by exact .ln (by exact each_map (fun _ => rfl))) qB qB (by ((try simp only [List.take_zero, List.take_succ_cons, List.drop_zero, List.drop_succ_cons, List.nil_append, List.cons_append, List.append_nil, List.length_cons, List.length_nil, List.set_cons_zero, List.set_cons_succ, List.map_cons, List.map_nil, List.take_nil, List.drop_nil, Nat.zero_add, Nat.add_zero, Nat.reduceAdd, Nat.reduceSub]); rfl)) (.push qL qN) qS ?_)) | refine AL.nil ?_)) | with_reducible refine AW.at_region _ ?_ | (with_reducible (first | refine wk0 ?_ | refine wk2 ?_ | refine wk3 ?_ | refine wk9 ?_ | refine wkb ?_ | refine wkd ?_)) | refine kcc rfl (fun hc => ?_) (fun hc => ?_))
  · have hl : l = [] := by simpa using hb hc
    subst hl
    refine Fin.wk (Wk.own 2 rfl 3 1 (.push rfl rfl)) ?_
    exact Fin.q Try.results146 (.cons (.tmp rfl) .nil) [0]
  · exact Fin.q Try.results146 (.cons (.tmp rfl) .nil) [0]
end Go.Proofs.Ytkichjejadkdgaa
