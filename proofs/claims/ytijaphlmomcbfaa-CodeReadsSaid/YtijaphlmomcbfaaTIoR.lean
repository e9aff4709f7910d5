/- Calls that are handed objects of their caller, in regions that draw their order; pointers that are looked at first (nilCheck). No program in sight. -/
import Derived.Test.YtijaphlmomcbfaaLC
namespace Go.Proofs.Ytijaphlmomcbfaa
set_option linter.unusedVariables false
set_option linter.unusedSimpArgs false
set_option linter.unnecessarySimpa false
open Go.RowKit
theorem setSel_zip : ∀ (sel : List Nat) (os : List Ob) (heap : List Ob), setSel heap sel os = setAll heap (sel.zip os)
  | [], _, _ => by simp [setSel, setAll]
  | _ :: _, [], _ => by simp [setSel, setAll]
  | i :: sel, o :: os, heap => by rw [setSel, List.zip_cons_cons, setAll, setSel_zip sel os]
def isPtr : AV → Bool
  | .ptr _ _ => true
  | .lp _ => true
  | .rp _ _ _ _ => true
  | _ => false
section
variable {P : Program} {ops : Array Oper} {Q : QS} {rest : List Oper} {o : Oper} {n : Fr} {T : Nat → AV} {heap : List Ob} {d : Nat}
theorem A_nilc (hw : wantedA n T ops o = true) (hd : o.dst = some d) (x : Operand) (ho : o.op = .nilCheck x) {y : AV} (hx : evA n T x = y) (hp : isPtr y = true) (k : AL P ops Q rest n (pu T d y) heap) : AL P ops Q (o :: rest) n T heap := by
  subst hx
  refine AL.val hw hd (fun e a w ρ Z Y hR => ⟨a.eval x, ?_, hR.eval x⟩) k
  have hv := hR.eval x
  have key : ∀ (y : AV) (v : Value), isPtr y = true → Val (Kn heap) ρ w Z Y y v → ∃ p, v = .pointer (some p) := by
    intro y v hp hv
    cases hv <;> first | (cases hp; done) | exact ⟨_, rfl⟩
  obtain ⟨p, e1⟩ := key _ _ hp hv
  unfold execOp; rw [ho]
  simp only [e1]
  rfl
theorem R_nilc (hw : wantedA n T ops o = true) (hd : o.dst = some d) (x : Operand) (ho : o.op = .nilCheck x) {y : AV} (hx : evA n T x = y) (hp : isPtr y = true) {F : List Dl → (Nat → AV) → List Ob → Prop} {acc : List Dl} (k : RG P ops n F rest (acc ++ [⟨some d, y, [], []⟩]) (pu T d y) heap) : RG P ops n F (o :: rest) acc T heap :=
  RG.cons hd.symm (fun T' h' hT hH hlen_ => A_nilc (by rw [wanted_eqA hT]; exact hw) hd x ho (by rw [ev_eq hT (by simp [ho, Op.operands, Call.operands])]; exact hx) hp (AL.nil ⟨rfl, rfl, rfl⟩)) rfl rfl k
/-- picks of what is known -/
theorem A_pkt (hw : wantedA n T ops o = true) (hd : o.dst = some d) (c x y : Operand) (ho : o.op = .pick c x y) (hc : evA n T c = .t (.v (.bool true))) {u : Tr} (hx : evA n T x = .t u) (k : AL P ops Q rest n (pu T d (.t u)) heap) : AL P ops Q (o :: rest) n T heap := A_pick hw hd c x y ho hc hx rfl rfl k
theorem A_pkf (hw : wantedA n T ops o = true) (hd : o.dst = some d) (c x y : Operand) (ho : o.op = .pick c x y) (hc : evA n T c = .t (.v (.bool false))) {u : Tr} (hx : evA n T y = .t u) (k : AL P ops Q rest n (pu T d (.t u)) heap) : AL P ops Q (o :: rest) n T heap := A_pick hw hd c x y ho hc rfl hx rfl k
theorem R_pkt (hw : wantedA n T ops o = true) (hd : o.dst = some d) (c x y : Operand) (ho : o.op = .pick c x y) (hc : evA n T c = .t (.v (.bool true))) {u : Tr} (hx : evA n T x = .t u) {F : List Dl → (Nat → AV) → List Ob → Prop} {acc : List Dl} (k : RG P ops n F rest (acc ++ [⟨some d, .t u, [], []⟩]) (pu T d (.t u)) heap) : RG P ops n F (o :: rest) acc T heap := R_pick hw hd c x y ho hc hx rfl rfl k
theorem R_pkf (hw : wantedA n T ops o = true) (hd : o.dst = some d) (c x y : Operand) (ho : o.op = .pick c x y) (hc : evA n T c = .t (.v (.bool false))) {u : Tr} (hx : evA n T y = .t u) {F : List Dl → (Nat → AV) → List Ob → Prop} {acc : List Dl} (k : RG P ops n F rest (acc ++ [⟨some d, .t u, [], []⟩]) (pu T d (.t u)) heap) : RG P ops n F (o :: rest) acc T heap := R_pick hw hd c x y ho hc rfl hx rfl k
theorem R_callio (hw : wantedA n T ops o = true) (hd : o.dst = some d) {f : FuncId} {fn : Func} (hf : P.funcs[f]? = some fn) {args : Array Operand} {tys : Array TypeId}
    (ho : o.op = .call { callee := .value (.func f), args := args, argTypes := tys }) (sel : List Nat) {xs : List AV} {H : List Ob} {r : AV} {L : List Ob} (hc : Cio P f xs H r L) {acc : List Nat} {F : List Dl → (Nat → AV) → List Ob → Prop} {ac : List Dl}
    (hn : (fn.name == "runtime.NumGoroutine") = false) (hb : fn.body.isNone = false) (hnd : sel.Nodup) (hL : L.length = sel.length) (ha : deep heap 3 (idsVs (args.toList.map (evA n T))) = acc)
    (hH : ∀ h', (∀ i, acc.contains i = true → h'[i]? = heap[i]?) → PassH h' sel sel H) (hp : ∀ h', (∀ i, acc.contains i = true → h'[i]? = heap[i]?) → PassL h' sel (args.toList.map (evA n T)) xs)
    {N : Nat} (hN : heap.length = N) {r' : AV} (hr : upA (gIO sel N) r = r') {U : List (Nat × Ob)} (hU : sel.zip (L.map (upO (gIO sel N))) = U) {heap' : List Ob} (hh : setAll heap U = heap')
    (k : RG P ops n F rest (ac ++ [⟨some d, r', U, acc⟩]) (pu T d r') heap') : RG P ops n F (o :: rest) ac T heap := by
  subst hr hN hU
  have hlk : ∀ x ∈ args.toList, x ∈ o.op.operands.toList := fun x hx => by rw [ho]; simp only [Op.operands, Call.operands, Array.toList_append]; exact List.mem_append_right _ hx
  refine RG.cons (D := ⟨some d, _, sel.zip (L.map (upO (gIO sel heap.length))), acc⟩) hd.symm (fun T' h' hT hA hl => ?_) rfl hh k
  have hargs : args.toList.map (evA n T') = args.toList.map (evA n T) := List.map_congr_left fun x hx => ev_eq hT (hlk x hx)
  have hs : ∀ i, acc.contains i = true → h'[i]? = heap[i]? := fun i hi => hA i (by simpa using hi)
  refine A_callio (by rw [wanted_eqA hT]; exact hw) hd hf hn hb ho sel hnd hc (hH h' hs) (by rw [hargs]; exact hp h' hs) hl rfl rfl (AL.nil ⟨rfl, rfl, ?_⟩)
  rw [List.drop_of_length_le (by omega), List.map_nil, List.append_nil, setSel_zip]
  rfl
end
end Go.Proofs.Ytijaphlmomcbfaa
