/- Calls of function values. No program in sight. -/
import Derived.Test.YtkichjejadkdgaaTFin
namespace Go.Proofs.Ytkichjejadkdgaa
set_option linter.unusedVariables false
set_option linter.unusedSimpArgs false
set_option linter.unnecessarySimpa false
open Go.RowKit
theorem run_fnv {P : Program} {o : Oper} {ev : Operand → Value} {x : Operand} {f : FuncId} {fn : Func} (hf : P.funcs[f]? = some fn) (hn : (fn.name == "runtime.NumGoroutine") = false) (hb : fn.body.isNone = false) {args : Array Operand} {tys : Array TypeId}
    (ho : o.op = .call { callee := .value x, args := args, argTypes := tys }) {fi cap : Array Value} (hx : ev x = .func (.func f) fi cap) (vs : List Value) (hv : args.toList.map ev = vs) (w : World) : (execOp ev o).run P w = .ok (.enter f (fi.toList ++ vs ++ cap.toList).toArray) w := by
  have e : Array.map ev args = vs.toArray := by rw [← hv]; apply Array.toList_inj.1; simp
  have e2 : fi ++ vs.toArray ++ cap = (fi.toList ++ vs ++ cap.toList).toArray := by apply Array.toList_inj.1; simp
  unfold execOp
  simp only [ho, resolve, hx, Deferred.ofValue, Sem.run_bind, Sem.run_pure, Result.andThen_ok, invoke, callFunc]
  have hn' : ¬ fn.name = "runtime.NumGoroutine" := by simpa using hn
  have hb' : ¬ fn.body = none := fun h => by rw [h] at hb; simp at hb
  simp [hf, hn', hb', Sem.run, e]
/-- What a function value does: its own arguments ahead, what it has caught behind. -/
def CV (P : Program) (g : AV) (ys : List AV) (r : AV) (L : List Ob) : Prop :=
  ∃ f fn fi cap, g = .fn (.func f) fi cap ∧ P.funcs[f]? = some fn ∧ (fn.name == "runtime.NumGoroutine") = false ∧ fn.body.isNone = false ∧ (∀ heap, PassL heap [] fi fi) ∧ (∀ heap, PassL heap [] cap cap) ∧ Cd P f (fi ++ ys ++ cap) r L
theorem PassL.append {heap : List Ob} {sel : List Nat} {a a' b b' : List AV} (h : PassL heap sel a a') (k : PassL heap sel b b') : PassL heap sel (a ++ b) (a' ++ b') := by
  induction h with
  | nil => exact k
  | cons h _ ih => exact .cons h ih
section
variable {P : Program} {ops : Array Oper} {Q : QS} {rest : List Oper} {o : Oper} {n : Fr} {T : Nat → AV} {heap : List Ob} {d : Nat}
theorem A_callv (hw : wantedA n T ops o = true) (hd : o.dst = some d) {x : Operand} {args : Array Operand} {tys : Array TypeId} (ho : o.op = .call { callee := .value x, args := args, argTypes := tys }) {g : AV} (hx : evA n T x = g) {ys : List AV} {r : AV} {L : List Ob} (hc : CV P g ys r L)
    (hp : PassL heap [] (args.toList.map (evA n T)) ys) {N : Nat} (hN : heap.length = N) {r' : AV} (hr : upA (shiftG N) r = r') {L' : List Ob} (hL : L.map (upO (shiftG N)) = L') {heap' : List Ob} (hh : heap ++ L' = heap') (k : AL P ops Q rest n (pu T d r') heap') : AL P ops Q (o :: rest) n T heap := by
  subst hr hL
  obtain ⟨f, fn, fi, cap, rfl, hf, hn, hb, p1, p2, hc⟩ := hc
  rintro e a w ⟨ρ, Z, Y, hR⟩
  have hrep := hR.ok.rep
  have hall := ((p1 heap).append hp).append (p2 heap)
  obtain ⟨hl, hg⟩ := hall.get
  have hv := hR.eval x
  rw [hx] at hv
  obtain ⟨us, vs, hxv, a1, a2, b1, b2⟩ : ∃ us vs : List Value, a.eval x = .func (.func f) us.toArray vs.toArray ∧ fi.length = us.length ∧ cap.length = vs.length ∧ (∀ (j : Nat) x u, fi[j]? = some x → us[j]? = some u → Val (Kn heap) ρ w Z Y x u) ∧ (∀ (j : Nat) x u, cap[j]? = some x → vs[j]? = some u → Val (Kn heap) ρ w Z Y x u) := by
    generalize a.eval x = v at hv
    cases hv with
    | fn h1 h2 hu hv => exact ⟨_, _, rfl, h1, h2, hu, hv⟩
  refine wpList_do (hR.wanted hw) fun K hK => ?_
  unfold Oper.wp
  rw [run_fnv hf hn hb ho hxv (args.toList.map a.eval) rfl w]
  have key : AVs (Val (Kn heap) ρ w Z Y) (fi ++ args.toList.map (evA n T) ++ cap) (us ++ args.toList.map a.eval ++ vs) := by
    refine ⟨by simp [a1, a2], fun j y u hj hu => ?_⟩
    by_cases c1 : j < (us ++ args.toList.map a.eval).length
    · rw [List.getElem?_append_left (by simpa [a1] using c1)] at hj
      rw [List.getElem?_append_left c1] at hu
      by_cases c2 : j < us.length
      · rw [List.getElem?_append_left (by omega)] at hj
        rw [List.getElem?_append_left c2] at hu
        exact b1 j y u hj hu
      · rw [List.getElem?_append_right (by omega), a1, List.getElem?_map] at hj
        rw [List.getElem?_append_right (by omega), List.getElem?_map] at hu
        cases hq : args.toList[j - us.length]? with
        | none => rw [hq] at hu; cases hu
        | some q => rw [hq] at hu hj; cases hu; cases hj; exact hR.eval q
    · rw [List.getElem?_append_right (by simpa [a1] using c1)] at hj
      rw [List.getElem?_append_right (by omega)] at hu
      refine b2 _ y u hj ?_
      rw [← hu]; congr 1; simp [a1]
  refine Calls.mono (hc (callEnv w ρ Z) _ rfl (callEnv_rep hrep) (fun i o b h => by simp at h) ⟨by have := key.len; simp at hl this ⊢; omega, fun j y u hj hu => ?_⟩) ?_
  · have hlt := get_lt hj
    rw [← hl] at hlt
    exact callEnv_val hrep (hg j _ y (List.getElem?_eq_getElem hlt) hj) (key.at_ j _ u (List.getElem?_eq_getElem hlt) (by simpa using hu))
  · rintro en w' ⟨v, r, L1, ρ1, Z1, Y1, rfl, ⟨rfl, rfl⟩, hok, hv⟩
    obtain ⟨ρ', k1, k2, k3⟩ := Ok.back (heap := heap) hR.ok (e1 := callEnv w ρ Z) rfl (fun b => Iff.rfl) rfl hok (.push hN hh)
    refine hK _ _ (k e _ _ ⟨ρ', Z1, fun b => Y b ∨ Z1 b, ?_⟩)
    rw [hd]
    exact (hR.move k1 k2).put d (k3 _ v hv)
end
end Go.Proofs.Ytkichjejadkdgaa
