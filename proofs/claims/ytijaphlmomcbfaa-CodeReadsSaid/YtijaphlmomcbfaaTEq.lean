/- Structs of integers that are held against each other with '=='. -/
import Derived.Test.YtijaphlmomcbfaaLC
import Derived.Test.YtijaphlmomcbfaaTypes
import Derived.Laws.StructEq
import Derived.KernelRfl
namespace Go.Proofs.Ytijaphlmomcbfaa
set_option linter.unusedVariables false
set_option linter.unusedSimpArgs false
set_option linter.unnecessarySimpa false
open Go.RowKit
section
variable {P : Program} {w : World}
theorem run_part {t : TypeId} (ha : ∀ w, (isAgg t).run P w = .ok false w) {cs : Array Value} {off : Nat} {v : Value} (hv : cs[off]? = some v) : (part t cs off).run P w = .ok v w := by
  unfold part
  simp only [Sem.run_bind, ha, Result.andThen_ok, Bool.false_eq_true, if_false, hv, Sem.run_pure]
theorem run_part_agg {t : TypeId} (ha : ∀ w, (isAgg t).run P w = .ok true w) {n : Nat} (hs : ∀ w, (sizeOf t).run P w = .ok n w) {cs : Array Value} {off : Nat} : (part t cs off).run P w = .ok (.agg (cs.extract off (off + n))) w := by
  unfold part
  simp only [Sem.run_bind, ha, Result.andThen_ok, if_true, hs, Sem.run_pure]
/-- One field more. -/
theorem eqf_cons {d : Nat} {xs ys : Array Value} {f : Field} {fs : List Field} (hn : (f.name == "_") = false) {x y : Value} (hx : (part f.type xs f.offset).run P w = .ok x w) (hy : (part f.type ys f.offset).run P w = .ok y w) {p q : Prop} [Decidable p] [Decidable q]
    (h : (Op.equalIn d f.type x y).run P w = .ok (decide p) w) (k : (Op.eqFields d xs ys fs).run P w = .ok (decide q) w) : (Op.eqFields d xs ys (f :: fs)).run P w = .ok (decide (p ∧ q)) w := by
  have hn' : f.name ≠ "_" := by simpa using hn
  unfold Op.eqFields
  simp only [if_pos hn', Sem.run_bind, hx, hy, h, Result.andThen_ok]
  by_cases hp : p
  · simp only [hp, decide_true, Bool.not_true, Bool.false_eq_true, if_false, true_and]
    exact k
  · simp [hp]
theorem eqf_nil {d : Nat} {xs ys : Array Value} : (Op.eqFields d xs ys []).run P w = .ok (decide True) w := by
  unfold Op.eqFields; simp
theorem eq_int {t : TypeId} (ht : P.underlying t = some (.int .i64)) (d : Nat) (a b : Int) : (Op.equalIn (d + 1) t (.int .i64 a) (.int .i64 b)).run P w = .ok (decide (a = b)) w := by
  rw [run_equalIn_int w d t .i64 .i64 a b ht]
  by_cases h : a = b <;> simp [h]
/-- '==' of two structs. -/
theorem A_eqs {ops : Array Oper} {Q : QS} {rest : List Oper} {o : Oper} {n : Fr} {T : Nat → AV} {heap : List Ob} {d : Nat} (hw : wantedA n T ops o = true) (hd : o.dst = some d) (xt yt : TypeId) (x y : Operand) (ho : o.op = .binOp .eql xt x y yt) {us vs : Array Value} (hx : cvA (evA n T x) = some (.agg us)) (hy : cvA (evA n T y) = some (.agg vs))
    (hm : P.eqGuardType P.depth xt = false) {p : Prop} [Decidable p] (he : ∀ w, (Op.equalIn 10000 xt (.agg us) (.agg vs)).run P w = .ok (decide p) w) {c : Bool} (hc : decide p = c) (k : AL P ops Q rest n (pu T d (.t (.v (.bool c)))) heap) : AL P ops Q (o :: rest) n T heap := by
  subst hc
  exact A_bin hw hd _ _ _ _ _ ho hx hy (fun w => by rw [Sem.run_bind, run_eqGuard_agg w _ _ _ _ _ _ hm, Result.andThen_ok, run_eql_struct, he, Result.andThen_ok]) rfl k
theorem A_nes {ops : Array Oper} {Q : QS} {rest : List Oper} {o : Oper} {n : Fr} {T : Nat → AV} {heap : List Ob} {d : Nat} (hw : wantedA n T ops o = true) (hd : o.dst = some d) (xt yt : TypeId) (x y : Operand) (ho : o.op = .binOp .neq xt x y yt) {us vs : Array Value} (hx : cvA (evA n T x) = some (.agg us)) (hy : cvA (evA n T y) = some (.agg vs))
    (hm : P.eqGuardType P.depth xt = false) {p : Prop} [Decidable p] (he : ∀ w, (Op.equalIn 10000 xt (.agg us) (.agg vs)).run P w = .ok (decide p) w) {c : Bool} (hc : (!decide p) = c) (k : AL P ops Q rest n (pu T d (.t (.v (.bool c)))) heap) : AL P ops Q (o :: rest) n T heap := by
  subst hc
  exact A_bin hw hd _ _ _ _ _ ho hx hy (fun w => by rw [Sem.run_bind, run_eqGuard_agg w _ _ _ _ _ _ hm, Result.andThen_ok, run_neq_struct, he, Result.andThen_ok]) rfl k
theorem R_eqs {ops : Array Oper} {rest : List Oper} {o : Oper} {n : Fr} {T : Nat → AV} {heap : List Ob} {d : Nat} (hw : wantedA n T ops o = true) (hd : o.dst = some d) (xt yt : TypeId) (x y : Operand) (ho : o.op = .binOp .eql xt x y yt) {us vs : Array Value} (hx : cvA (evA n T x) = some (.agg us)) (hy : cvA (evA n T y) = some (.agg vs))
    (hm : P.eqGuardType P.depth xt = false) {p : Prop} [Decidable p] (he : ∀ w, (Op.equalIn 10000 xt (.agg us) (.agg vs)).run P w = .ok (decide p) w) {c : Bool} (hc : decide p = c) {F : List Dl → (Nat → AV) → List Ob → Prop} {acc : List Dl} (k : RG P ops n F rest (acc ++ [⟨some d, .t (.v (.bool c)), [], []⟩]) (pu T d (.t (.v (.bool c)))) heap) : RG P ops n F (o :: rest) acc T heap :=
  RG.cons hd.symm (fun T' h' hT hH hlen_ => A_eqs (by rw [wanted_eqA hT]; exact hw) hd _ _ _ _ ho (by rw [ev_eq hT (by simp [ho, Op.operands])]; exact hx) (by rw [ev_eq hT (by simp [ho, Op.operands])]; exact hy) hm he hc (AL.nil ⟨rfl, rfl, rfl⟩)) rfl rfl k
theorem R_nes {ops : Array Oper} {rest : List Oper} {o : Oper} {n : Fr} {T : Nat → AV} {heap : List Ob} {d : Nat} (hw : wantedA n T ops o = true) (hd : o.dst = some d) (xt yt : TypeId) (x y : Operand) (ho : o.op = .binOp .neq xt x y yt) {us vs : Array Value} (hx : cvA (evA n T x) = some (.agg us)) (hy : cvA (evA n T y) = some (.agg vs))
    (hm : P.eqGuardType P.depth xt = false) {p : Prop} [Decidable p] (he : ∀ w, (Op.equalIn 10000 xt (.agg us) (.agg vs)).run P w = .ok (decide p) w) {c : Bool} (hc : (!decide p) = c) {F : List Dl → (Nat → AV) → List Ob → Prop} {acc : List Dl} (k : RG P ops n F rest (acc ++ [⟨some d, .t (.v (.bool c)), [], []⟩]) (pu T d (.t (.v (.bool c)))) heap) : RG P ops n F (o :: rest) acc T heap :=
  RG.cons hd.symm (fun T' h' hT hH hlen_ => A_nes (by rw [wanted_eqA hT]; exact hw) hd _ _ _ _ ho (by rw [ev_eq hT (by simp [ho, Op.operands])]; exact hx) (by rw [ev_eq hT (by simp [ho, Op.operands])]; exact hy) hm he hc (AL.nil ⟨rfl, rfl, rfl⟩)) rfl rfl k
end
theorem not_dec_false {p : Prop} [Decidable p] (h : ¬ p) : (!decide p) = true := by simp [h]
theorem not_dec_true {p : Prop} [Decidable p] (h : p) : (!decide p) = false := by simp [h]
theorem isAgg_no {t : TypeId} {k : IntKind} (h : Try.prog.underlying t = some (.int k)) (w : World) : (isAgg t).run Try.prog w = .ok false w := by
  unfold isAgg; simp only [Sem.run_bind, run_underlying h, Result.andThen_ok, Sem.run_pure]
theorem isAgg_yes {t : TypeId} {fs : Array Field} (h : Try.prog.underlying t = some (.struct fs)) (w : World) : (isAgg t).run Try.prog w = .ok true w := by
  unfold isAgg; simp only [Sem.run_bind, run_underlying h, Result.andThen_ok, Sem.run_pure]
set_option maxHeartbeats 4000000
set_option maxRecDepth 100000 in
theorem eqs64 (d : Nat) (a0 a1 b0 b1 : Int) (w : World) : (Op.equalIn (d + 2) 64 (.agg #[.int .i64 a0, .int .i64 a1]) (.agg #[.int .i64 b0, .int .i64 b1])).run Try.prog w = .ok (decide (a0 = b0 ∧ a1 = b1 ∧ True)) w := by
  rw [run_equalIn_agg w (d + 1) 64 _ _ (by kernel_rfl) (by kernel_rfl)]
  simp only [Program.fieldsOf, Try.underlying64]
  refine eqf_cons (x := .int .i64 a0) (y := .int .i64 b0) (by kernel_rfl) (run_part (isAgg_no Try.underlying3) (by kernel_rfl)) (run_part (isAgg_no Try.underlying3) (by kernel_rfl)) (eq_int Try.underlying3 (d + 0) _ _) ?_
  refine eqf_cons (x := .int .i64 a1) (y := .int .i64 b1) (by kernel_rfl) (run_part (isAgg_no Try.underlying3) (by kernel_rfl)) (run_part (isAgg_no Try.underlying3) (by kernel_rfl)) (eq_int Try.underlying3 (d + 0) _ _) ?_
  exact eqf_nil
set_option maxRecDepth 100000 in
theorem eqs105 (d : Nat) (a0 a1 a2 b0 b1 b2 : Int) (w : World) : (Op.equalIn (d + 2) 105 (.agg #[.int .i64 a0, .int .i64 a1, .int .i64 a2]) (.agg #[.int .i64 b0, .int .i64 b1, .int .i64 b2])).run Try.prog w = .ok (decide (a0 = b0 ∧ a1 = b1 ∧ a2 = b2 ∧ True)) w := by
  rw [run_equalIn_agg w (d + 1) 105 _ _ (by kernel_rfl) (by kernel_rfl)]
  simp only [Program.fieldsOf, Try.underlying105]
  refine eqf_cons (x := .int .i64 a0) (y := .int .i64 b0) (by kernel_rfl) (run_part (isAgg_no Try.underlying3) (by kernel_rfl)) (run_part (isAgg_no Try.underlying3) (by kernel_rfl)) (eq_int Try.underlying3 (d + 0) _ _) ?_
  refine eqf_cons (x := .int .i64 a1) (y := .int .i64 b1) (by kernel_rfl) (run_part (isAgg_no Try.underlying3) (by kernel_rfl)) (run_part (isAgg_no Try.underlying3) (by kernel_rfl)) (eq_int Try.underlying3 (d + 0) _ _) ?_
  refine eqf_cons (x := .int .i64 a2) (y := .int .i64 b2) (by kernel_rfl) (run_part (isAgg_no Try.underlying3) (by kernel_rfl)) (run_part (isAgg_no Try.underlying3) (by kernel_rfl)) (eq_int Try.underlying3 (d + 0) _ _) ?_
  exact eqf_nil
set_option maxRecDepth 100000 in
theorem eqs131 (d : Nat) (a0 a1 b0 b1 : Int) (w : World) : (Op.equalIn (d + 2) 131 (.agg #[.int .i64 a0, .int .i64 a1]) (.agg #[.int .i64 b0, .int .i64 b1])).run Try.prog w = .ok (decide (a0 = b0 ∧ a1 = b1 ∧ True)) w := by
  rw [run_equalIn_agg w (d + 1) 131 _ _ (by kernel_rfl) (by kernel_rfl)]
  simp only [Program.fieldsOf, Try.underlying131]
  refine eqf_cons (x := .int .i64 a0) (y := .int .i64 b0) (by kernel_rfl) (run_part (isAgg_no Try.underlying3) (by kernel_rfl)) (run_part (isAgg_no Try.underlying3) (by kernel_rfl)) (eq_int Try.underlying3 (d + 0) _ _) ?_
  refine eqf_cons (x := .int .i64 a1) (y := .int .i64 b1) (by kernel_rfl) (run_part (isAgg_no Try.underlying3) (by kernel_rfl)) (run_part (isAgg_no Try.underlying3) (by kernel_rfl)) (eq_int Try.underlying3 (d + 0) _ _) ?_
  exact eqf_nil
set_option maxRecDepth 100000 in
theorem eqs133 (d : Nat) (a0 a1 a2 b0 b1 b2 : Int) (w : World) : (Op.equalIn (d + 3) 133 (.agg #[.int .i64 a0, .int .i64 a1, .int .i64 a2]) (.agg #[.int .i64 b0, .int .i64 b1, .int .i64 b2])).run Try.prog w = .ok (decide ((a0 = b0 ∧ a1 = b1 ∧ True) ∧ a2 = b2 ∧ True)) w := by
  rw [run_equalIn_agg w (d + 2) 133 _ _ (by kernel_rfl) (by kernel_rfl)]
  simp only [Program.fieldsOf, Try.underlying133]
  refine eqf_cons (by kernel_rfl) (run_part_agg (isAgg_yes Try.underlying64) (fun w => run_size inf64)) (run_part_agg (isAgg_yes Try.underlying64) (fun w => run_size inf64)) (eqs64 (d + 0) _ _ _ _ _) ?_
  refine eqf_cons (x := .int .i64 a2) (y := .int .i64 b2) (by kernel_rfl) (run_part (isAgg_no Try.underlying3) (by kernel_rfl)) (run_part (isAgg_no Try.underlying3) (by kernel_rfl)) (eq_int Try.underlying3 (d + 1) _ _) ?_
  exact eqf_nil
end Go.Proofs.Ytijaphlmomcbfaa
