/- Joined: XTypes, XTEq. -/
import Derived.Test.YtphcebioiipdpaaRows
import Derived.KernelRfl
import Derived.Test.YtphcebioiipdpaaKPc
import Derived.Laws.StructEq
namespace Go.Proofs.Ytphcebioiipdpaa
set_option linter.unusedVariables false
set_option linter.unusedSimpArgs false
set_option linter.unnecessarySimpa false
theorem inf3 : (Try.prog.info? 3).map (fun i => (i.zero, i.size, i.bytes)) = some (some (.int .i64 0), 1, 8) := by kernel_rfl
theorem inf4 : (Try.prog.info? 4).map (fun i => (i.zero, i.size, i.bytes)) = some (some (.bool false), 1, 1) := by kernel_rfl
theorem inf22 : (Try.prog.info? 22).map (fun i => (i.zero, i.size, i.bytes)) = some (some (.slice none 0 0), 1, 24) := by kernel_rfl
theorem inf24 : (Try.prog.info? 24).map (fun i => (i.zero, i.size, i.bytes)) = some (some (.agg #[.int .i64 0, .int .i64 0, .int .i64 0, .int .i64 0, .int .i64 0, .int .i64 0, .int .i64 0, .int .i64 0, .int .i64 0, .int .i64 0, .slice none 0 0]), 11, 104) := by kernel_rfl
theorem inf25 : (Try.prog.info? 25).map (fun i => (i.zero, i.size, i.bytes)) = some (some (.slice none 0 0), 1, 24) := by kernel_rfl
theorem inf26 : (Try.prog.info? 26).map (fun i => (i.zero, i.size, i.bytes)) = some (some (.slice none 0 0), 1, 24) := by kernel_rfl
theorem inf27 : (Try.prog.info? 27).map (fun i => (i.zero, i.size, i.bytes)) = some (some (.slice none 0 0), 1, 24) := by kernel_rfl
theorem inf29 : (Try.prog.info? 29).map (fun i => (i.zero, i.size, i.bytes)) = some (some (.agg #[.int .i64 0, .slice none 0 0, .slice none 0 0, .slice none 0 0]), 4, 80) := by kernel_rfl
theorem inf30 : (Try.prog.info? 30).map (fun i => (i.zero, i.size, i.bytes)) = some (some (.slice none 0 0), 1, 24) := by kernel_rfl
theorem inf32 : (Try.prog.info? 32).map (fun i => (i.zero, i.size, i.bytes)) = some (some (.agg #[.int .i64 0, .int .i64 0, .int .i64 0, .bool false, .slice none 0 0]), 5, 56) := by kernel_rfl
theorem inf43 : (Try.prog.info? 43).map (fun i => (i.zero, i.size, i.bytes)) = some (some (.agg #[.bool false, .int .i64 0, .int .i64 0, .slice none 0 0]), 4, 48) := by kernel_rfl
theorem inf45 : (Try.prog.info? 45).map (fun i => (i.zero, i.size, i.bytes)) = some (some (.agg #[.int .i64 0, .int .i64 0, .int .i64 0]), 3, 24) := by kernel_rfl
theorem inf48 : (Try.prog.info? 48).map (fun i => (i.zero, i.size, i.bytes)) = some (some (.int .i64 0), 1, 8) := by kernel_rfl
theorem inf50 : (Try.prog.info? 50).map (fun i => (i.zero, i.size, i.bytes)) = some (some (.agg #[.int .i64 0, .int .i64 0, .int .i64 0, .int .i64 0]), 4, 32) := by kernel_rfl
theorem inf59 : (Try.prog.info? 59).map (fun i => (i.zero, i.size, i.bytes)) = some (some (.agg #[.int .i64 0, .int .i64 0, .int .i64 0, .int .i64 0, .bool false, .slice none 0 0]), 6, 64) := by kernel_rfl
theorem inf63 : (Try.prog.info? 63).map (fun i => (i.zero, i.size, i.bytes)) = some (some (.agg #[.slice none 0 0, .slice none 0 0, .slice none 0 0]), 3, 72) := by kernel_rfl
theorem inf66 : (Try.prog.info? 66).map (fun i => (i.zero, i.size, i.bytes)) = some (some (.agg #[.int .i64 0, .int .i64 0, .bool false, .bool false, .slice none 0 0]), 5, 48) := by kernel_rfl
theorem inf70 : (Try.prog.info? 70).map (fun i => (i.zero, i.size, i.bytes)) = some (some (.agg #[.int .i64 0, .slice none 0 0, .slice none 0 0, .slice none 0 0, .int .i64 0, .int .i64 0, .int .i64 0, .int .i64 0, .int .i64 0, .int .i64 0, .int .i64 0, .int .i64 0, .int .i64 0, .int .i64 0, .slice none 0 0, .int .i64 0, .int .i64 0]), 17, 200) := by kernel_rfl
theorem inf124 : (Try.prog.info? 124).map (fun i => (i.zero, i.size, i.bytes)) = some (some (.agg #[.int .i64 0, .int .i64 0, .int .i64 0, .int .i64 0, .int .i64 0]), 5, 40) := by kernel_rfl
abbrev ud3 := @Try.underlying3
abbrev ud4 := @Try.underlying4
abbrev ud22 := @Try.underlying22
abbrev ud24 := @Try.underlying24
abbrev ud25 := @Try.underlying25
abbrev ud26 := @Try.underlying26
abbrev ud27 := @Try.underlying27
abbrev ud29 := @Try.underlying29
abbrev ud30 := @Try.underlying30
abbrev ud32 := @Try.underlying32
abbrev ud43 := @Try.underlying43
abbrev ud45 := @Try.underlying45
abbrev ud48 := @Try.underlying48
abbrev ud50 := @Try.underlying50
abbrev ud56 := @Try.underlying56
abbrev ud59 := @Try.underlying59
abbrev ud62 := @Try.underlying62
abbrev ud63 := @Try.underlying63
abbrev ud66 := @Try.underlying66
abbrev ud70 := @Try.underlying70
abbrev ud95 := @Try.underlying95
abbrev ud124 := @Try.underlying124
abbrev ud143 := @Try.underlying143
end Go.Proofs.Ytphcebioiipdpaa


namespace Go.Proofs.Ytphcebioiipdpaa
set_option linter.unusedVariables false
set_option linter.unusedSimpArgs false
set_option linter.unnecessarySimpa false
open Go.RowKit
section
variable {P : Program} {w : World}
theorem run_part {t : TypeId} (ha : ∀ w, (isAgg t).run P w = .ok false w) {cs : Array Value} {off : Nat} {v : Value} (hv : cs[off]? = some v) : (part t cs off).run P w = .ok v w := by
  unfold part
  simp only [Sem.run_bind, ha, Result.andThen_ok, Bool.false_eq_true, if_false, hv, Sem.run_pure]
theorem eqf_cons {d : Nat} {xs ys : Array Value} {f : Field} {fs : List Field} (hn : (f.name == "_") = false) {x y : Value} (hx : (part f.type xs f.offset).run P w = .ok x w) (hy : (part f.type ys f.offset).run P w = .ok y w) {p q : Prop} [Decidable p] [Decidable q]
    (h : (Op.equalIn d f.type x y).run P w = .ok (decide p) w) (k : (Op.eqFields d xs ys fs).run P w = .ok (decide q) w) : (Op.eqFields d xs ys (f :: fs)).run P w = .ok (decide (p ∧ q)) w := by
  have hn' : f.name ≠ "_" := by simpa using hn
  unfold Op.eqFields
  simp only [if_pos hn', Sem.run_bind, hx, hy, h, Result.andThen_ok]
  by_cases hp : p
  · simp only [hp, decide_true, Bool.not_true, Bool.false_eq_true, if_false, true_and]
    exact k
  · simp [hp]
theorem eqf_nil {d : Nat} {xs ys : Array Value} : (Op.eqFields d xs ys []).run P w = .ok (decide True) w := by
  unfold Op.eqFields; simp
theorem eq_int {t : TypeId} (ht : P.underlying t = some (.int .i64)) (d : Nat) (a b : Int) : (Op.equalIn (d + 1) t (.int .i64 a) (.int .i64 b)).run P w = .ok (decide (a = b)) w := by
  rw [run_equalIn_int w d t .i64 .i64 a b ht]
  by_cases h : a = b <;> simp [h]
theorem A_eqs {ops : Array Oper} {Q : QS} {rest : List Oper} {o : Oper} {n : Fr} {T : Nat → AV} {heap : List Ob} {d : Nat} (hw : wantedA n T ops o = true) (hd : o.dst = some d) (xt yt : TypeId) (x y : Operand) (ho : o.op = .binOp .eql xt x y yt) {us vs : Array Value} (hx : cvA (evA n T x) = some (.agg us)) (hy : cvA (evA n T y) = some (.agg vs))
    (hm : P.eqGuardType P.depth xt = false) {p : Prop} [Decidable p] (he : ∀ w, (Op.equalIn 10000 xt (.agg us) (.agg vs)).run P w = .ok (decide p) w) {c : Bool} (hc : decide p = c) (k : AL P ops Q rest n (pu T d (.t (.v (.bool c)))) heap) : AL P ops Q (o :: rest) n T heap := by
  subst hc
  exact A_bin hw hd _ _ _ _ _ ho hx hy (fun w => by rw [Sem.run_bind, run_eqGuard_agg w _ _ _ _ _ _ hm, Result.andThen_ok, run_eql_struct, he, Result.andThen_ok]) rfl k
theorem R_eqs {ops : Array Oper} {rest : List Oper} {o : Oper} {n : Fr} {T : Nat → AV} {heap : List Ob} {d : Nat} (hw : wantedA n T ops o = true) (hd : o.dst = some d) (xt yt : TypeId) (x y : Operand) (ho : o.op = .binOp .eql xt x y yt) {us vs : Array Value} (hx : cvA (evA n T x) = some (.agg us)) (hy : cvA (evA n T y) = some (.agg vs))
    (hm : P.eqGuardType P.depth xt = false) {p : Prop} [Decidable p] (he : ∀ w, (Op.equalIn 10000 xt (.agg us) (.agg vs)).run P w = .ok (decide p) w) {c : Bool} (hc : decide p = c) {F : List Dl → (Nat → AV) → List Ob → Prop} {acc : List Dl} (k : RG P ops n F rest (acc ++ [⟨some d, .t (.v (.bool c)), [], []⟩]) (pu T d (.t (.v (.bool c)))) heap) : RG P ops n F (o :: rest) acc T heap :=
  RG.cons hd.symm (fun T' h' hT hH hlen_ => A_eqs (by rw [wanted_eqA hT]; exact hw) hd _ _ _ _ ho (by rw [ev_eq hT (by simp [ho, Op.operands])]; exact hx) (by rw [ev_eq hT (by simp [ho, Op.operands])]; exact hy) hm he hc (AL.nil ⟨rfl, rfl, rfl⟩)) rfl rfl k
end
theorem isAgg_no {t : TypeId} {k : IntKind} (h : Try.prog.underlying t = some (.int k)) (w : World) : (isAgg t).run Try.prog w = .ok false w := by
  unfold isAgg; simp only [Sem.run_bind, run_underlying h, Result.andThen_ok, Sem.run_pure]
set_option maxHeartbeats 4000000
set_option maxRecDepth 100000 in
theorem eqs50 (d : Nat) (a0 a1 a2 a3 b0 b1 b2 b3 : Int) (w : World) : (Op.equalIn (d + 2) 50 (.agg #[.int .i64 a0, .int .i64 a1, .int .i64 a2, .int .i64 a3]) (.agg #[.int .i64 b0, .int .i64 b1, .int .i64 b2, .int .i64 b3])).run Try.prog w = .ok (decide (a0 = b0 ∧ a1 = b1 ∧ a2 = b2 ∧ a3 = b3 ∧ True)) w := by
  rw [run_equalIn_agg w (d + 1) 50 _ _ (by kernel_rfl) (by kernel_rfl)]
  simp only [Program.fieldsOf, Try.underlying50]
  refine eqf_cons (x := .int .i64 a0) (y := .int .i64 b0) (by kernel_rfl) (run_part (isAgg_no Try.underlying3) (by kernel_rfl)) (run_part (isAgg_no Try.underlying3) (by kernel_rfl)) (eq_int Try.underlying3 (d + 0) _ _) ?_
  refine eqf_cons (x := .int .i64 a1) (y := .int .i64 b1) (by kernel_rfl) (run_part (isAgg_no Try.underlying3) (by kernel_rfl)) (run_part (isAgg_no Try.underlying3) (by kernel_rfl)) (eq_int Try.underlying3 (d + 0) _ _) ?_
  refine eqf_cons (x := .int .i64 a2) (y := .int .i64 b2) (by kernel_rfl) (run_part (isAgg_no Try.underlying48) (by kernel_rfl)) (run_part (isAgg_no Try.underlying48) (by kernel_rfl)) (eq_int Try.underlying48 (d + 0) _ _) ?_
  refine eqf_cons (x := .int .i64 a3) (y := .int .i64 b3) (by kernel_rfl) (run_part (isAgg_no Try.underlying3) (by kernel_rfl)) (run_part (isAgg_no Try.underlying3) (by kernel_rfl)) (eq_int Try.underlying3 (d + 0) _ _) ?_
  exact eqf_nil
end Go.Proofs.Ytphcebioiipdpaa

