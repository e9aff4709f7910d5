/- How the program's data stand as trees; slices.Clone. -/
import Derived.Test.YtkichjejadkdgaaTFin
import Derived.Test.YtkichjejadkdgaaTMac
import Derived.Test.YtkichjejadkdgaaTypes
namespace Go.Proofs.Ytkichjejadkdgaa
set_option linter.unusedVariables false
set_option linter.unusedSimpArgs false
set_option linter.unnecessarySimpa false
open Go.RowKit
attribute [local irreducible] AL AW RG Fin C Cd Cio thenQ blockQ retQ
theorem mixed : Try.prog.follows .mixedOrders = true := by kernel_rfl
abbrev bo (b : Bool) : AV := .t (.v (.bool b))
abbrev i64 (x : Int) : AV := .t (.v (.int .i64 x))
def tI (x : Int) : List Tr := [.v (.int .i64 x)]
def tU (x : Int) : List Tr := [.v (.int .u64 x)]
structure Rst where
  seq : Int
  cas : Int
  code : Int
  value : Int
  deriving DecidableEq, Inhabited
def tR (r : Rst) : List Tr := [.v (.int .i64 r.seq), .v (.int .i64 r.cas), .v (.int .i64 r.code), .v (.int .i64 r.value)]
def setR (d : List Rst) (t : Int) (r : Rst) : List Rst := if 0 ≤ t ∧ t < d.length then d.set t.toNat r else d
theorem setR_yes {d : List Rst} {t : Int} {r : Rst} (h0 : 0 ≤ t) (h : t < d.length) : setR d t r = d.set t.toNat r := if_pos ⟨h0, h⟩
theorem setR_no {d : List Rst} {t : Int} {r : Rst} (h : ¬ (0 ≤ t ∧ t < d.length)) : setR d t r = d := if_neg h
theorem setR_len (d : List Rst) (t : Int) (r : Rst) : (setR d t r).length = d.length := by unfold setR; split <;> simp
set_option maxRecDepth 100000 in
set_option maxHeartbeats 4000000 in
theorem clone_I (l : List Int) (h : l.length ≤ 17592186044416) : Cd Try.prog 146 [.ln (l.map tI)] (.sl 0 0 l.length) [.row 0 3 1 (l.map tI)] := by
  first | refine Cd.enter' Try.func146 rfl Try.ntmps146 rfl ?_ | refine Cio.enter' Try.func146 rfl Try.ntmps146 rfl (by simp only [List.length_cons, List.length_nil, Nat.zero_add, Nat.reduceAdd]; rfl) ?_ | refine C.enter' Try.func146 rfl Try.ntmps146 rfl (by simp only [List.length_cons, List.length_nil, Nat.zero_add, Nat.reduceAdd]; rfl) ?_
  repeat' (first | with_reducible refine AW.seq ?_ | with_reducible refine thenQ_n ?_ | with_reducible refine thenQ_r ?_ | with_reducible refine retQ_r ?_ | with_reducible refine AW.ret ?_ | with_reducible refine AW.skip ?_ | (refine AW.cond rfl (fun hc => ?_) (fun hc => ?_) <;> (try simp only [decide_eq_true_eq, decide_eq_false_iff_not, Bool.not_eq_true', Bool.not_eq_false'] at hc) <;> (try contradiction)) | ((with_reducible refine AW.at_region 0 ?_); (refine A_move rfl rfl _ (.inr rfl) (y := .nl) rfl ?_ <;> try refine AL.nil ?_)) | ((with_reducible refine AW.at_region 1 ?_); (refine A_move rfl rfl _ (.inl rfl) (y := .ln _) rfl ?_ <;> try ((refine A_eqnil rfl rfl _ _ _ rfl Try.underlying44 rfl (fun b hb => ?_)) <;> try refine AL.nil ?_))) | ((with_reducible refine AW.at_region 2 ?_); (refine A_move rfl rfl _ (.inr rfl) (y := .nl) rfl ?_ <;> try refine AL.nil ?_)) | ((with_reducible refine AW.at_region 3 ?_); (refine A_lit0 rfl rfl _ rfl Try.underlying44 inf3 ?_ <;> try (refine A_move rfl rfl _ (.inl rfl) (y := .ln _) rfl ?_ <;> try ((refine A_append_nl rfl rfl _ _ _ rfl Try.underlying44 inf3 rfl rfl (by exact .ln (by exact each_map (fun _ => rfl))) qB qB (by ((try simp only [List.take_zero, List.take_succ_cons, List.drop_zero, List.drop_succ_cons, List.nil_append, List.cons_append, List.append_nil, List.length_cons, List.length_nil, List.set_cons_zero, List.set_cons_succ, List.map_cons, List.map_nil, List.take_nil, List.drop_nil, Nat.zero_add, Nat.add_zero, Nat.reduceAdd, Nat.reduceSub]); rfl)) (.push qL qN) qS ?_) <;> try (refine A_move rfl rfl _ (.inr rfl) (y := .sl _ _ _) rfl ?_ <;> try refine AL.nil ?_))))))
  · have hl : l = [] := by simpa using hb hc
    subst hl
    refine Fin.wk (Wk.own 2 rfl 3 1 (.push rfl rfl)) ?_
    refine Fin.mkv (rs := _) Try.results146 (.cons (.tmp rfl) .nil) [0] (by decide) rfl ?_ ?_ ?_ <;> repeat' (first | exact .nil | refine .cons rfl ?_ ?_ | refine .cons ?_ ?_ | refine .row ?_ | refine .rset ?_ | refine .box ?_ | exact .gone | refine .aggL ?_ | refine .tupL ?_ | refine .old rfl ?_ | refine .new rfl rfl rfl ?_ | exact .nl | exact .optr rfl | exact .nptr rfl rfl rfl | refine .t ?_ | exact .any _ | rfl)
  · refine Fin.mkv (rs := _) Try.results146 (.cons (.tmp rfl) .nil) [0] (by decide) rfl ?_ ?_ ?_ <;> repeat' (first | exact .nil | refine .cons rfl ?_ ?_ | refine .cons ?_ ?_ | refine .row ?_ | refine .rset ?_ | refine .box ?_ | exact .gone | refine .aggL ?_ | refine .tupL ?_ | refine .old rfl ?_ | refine .new rfl rfl rfl ?_ | exact .nl | exact .optr rfl | exact .nptr rfl rfl rfl | refine .t ?_ | exact .any _ | rfl)
end Go.Proofs.Ytkichjejadkdgaa
