/- Calls of function values in regions that draw their order: such as make no object. -/
import Derived.Test.YtkichjejadkdgaaTFun
import Derived.Test.YtkichjejadkdgaaTWalk
namespace Go.Proofs.Ytkichjejadkdgaa
set_option linter.unusedVariables false
set_option linter.unusedSimpArgs false
set_option linter.unnecessarySimpa false
open Go.RowKit
section
variable {P : Program} {ops : Array Oper} {rest : List Oper} {o : Oper} {n : Fr} {T : Nat → AV} {heap : List Ob} {d : Nat}
theorem R_callv (hw : wantedA n T ops o = true) (hd : o.dst = some d) {x : Operand} {args : Array Operand} {tys : Array TypeId} (ho : o.op = .call { callee := .value x, args := args, argTypes := tys }) {g : AV} (hx : evA n T x = g) {ys : List AV} {r : AV} (hc : CV P g ys r [])
    {acc : List Nat} (ha : deep heap 3 (idsVs (args.toList.map (evA n T))) = acc) (hp : ∀ h', (∀ i, acc.contains i = true → h'[i]? = heap[i]?) → PassL h' [] (args.toList.map (evA n T)) ys) {N : Nat} (hN : heap.length = N) {r' : AV} (hr : upA (shiftG N) r = r')
    {F : List Dl → (Nat → AV) → List Ob → Prop} {ac : List Dl} (k : RG P ops n F rest (ac ++ [⟨some d, r', [], acc⟩]) (pu T d r') heap) : RG P ops n F (o :: rest) ac T heap := by
  subst hr hN
  have hlk : ∀ x ∈ args.toList, x ∈ o.op.operands.toList := fun x hx => by rw [ho]; simp only [Op.operands, Call.operands, Array.toList_append]; exact List.mem_append_right _ hx
  have hlx : x ∈ o.op.operands.toList := by rw [ho]; simp [Op.operands, Call.operands]
  refine RG.cons (D := ⟨some d, _, [], acc⟩) hd.symm (fun T' h' hT hH hl => ?_) rfl rfl k
  have hargs : args.toList.map (evA n T') = args.toList.map (evA n T) := List.map_congr_left fun x hx => ev_eq hT (hlk x hx)
  refine A_callv (by rw [wanted_eqA hT]; exact hw) hd ho (by rw [ev_eq hT hlx]; exact hx) hc (by rw [hargs]; exact hp h' fun i hi => hH i (by simpa using hi)) hl rfl rfl (List.append_nil _) (AL.nil ⟨rfl, rfl, rfl⟩)
end
end Go.Proofs.Ytkichjejadkdgaa
