/- What drives a walk over trees: the exits, the calls by equations, small words. No program in sight. -/
import Derived.Test.YtkichjejadkdgaaTRegOps
namespace Go.Proofs.Ytkichjejadkdgaa
set_option linter.unusedVariables false
set_option linter.unusedSimpArgs false
set_option linter.unnecessarySimpa false
open Go.RowKit
section
variable {P : Program} {Q : QS} {K : (Nat → AV) → List Ob → Prop} {n : Fr} {T : Nat → AV} {heap : List Ob} {id i : Nat} {fn : Func} {R : AV → List Ob → Prop}
theorem thenQ_n (h : K T heap) : thenQ K Q .normal T heap := h
theorem thenQ_r (h : Q .ret T heap) : thenQ K Q .ret T heap := h
theorem thenQ_e (h : Q (.exit i) T heap) : thenQ K Q (.exit i) T heap := h
theorem blockQ_n (h : Q .normal T heap) : blockQ id Q .normal T heap := h
theorem blockQ_r (h : Q .ret T heap) : blockQ id Q .ret T heap := h
theorem blockQ_e0 (h : Q .normal T heap) : blockQ id Q (.exit id) T heap := by
  show (bif Nat.beq id id then Q .normal T heap else _)
  rw [Nat.beq_refl]; exact h
theorem blockQ_e1 (hb : Nat.beq i id = false) (h : Q (.exit i) T heap) : blockQ id Q (.exit i) T heap := by
  show (bif Nat.beq i id then _ else Q (.exit i) T heap)
  rw [hb]; exact h
theorem retQ_r (h : Fin P fn R n T heap) : retQ P fn R n .ret T heap := h
theorem retQ_n (h : Fin P fn R n T heap) : retQ P fn R n .normal T heap := h
theorem AW.at_region (id : Nat) {l : List Oper} (h : AL P l.toArray Q l n T heap) : AW P (.region id l.toArray false) Q n T heap := AW.region h
theorem AW.at_draw (id : Nat) {l : List Oper} (hm : P.follows .mixedOrders = true) (m : Nat) (A : List (List Nat)) {h1 : List Ob} (hh : heap ++ List.replicate m .hole = h1) (hr : RG P l.toArray n (fun Ds T2 h2 => chkD l A (W_ Ds) = true ∧ Q .normal T2 h2) l [] T h1) : AW P (.region id l.toArray true) Q n T heap := by
  obtain ⟨Ds, T2, h2, h3, h4, h5⟩ := hr
  exact AW.draw hm m hh h3 A h4 h5
end
theorem map_get {α β : Type} {l : List α} {f : α → β} {k : Nat} {x : α} (h : l[k]? = some x) : (l.map f)[k]? = some (f x) := by rw [List.getElem?_map, h]; rfl
theorem each_map {α : Type} {l : List α} {f : α → List Tr} {s : Nat} (h : ∀ x, (f x).length = s) : ∀ cs ∈ l.map f, cs.length = s := fun cs hc => by
  obtain ⟨x, _, rfl⟩ := List.mem_map.1 hc; exact h x
theorem map_set {α : Type} {l : List α} {f : α → List Tr} {i : Nat} {x : α} : (l.map f).set i (f x) = (l.set i x).map f := by rw [List.map_set]
theorem app_map {α : Type} {l l' : List α} {f : α → List Tr} {m : Nat} (h : m = l.length) : (l.map f).take m ++ l'.map f = (l ++ l').map f := by
  subst h; rw [List.map_append, List.take_of_length_le (by simp)]
theorem app_one {α : Type} {l : List α} {f : α → List Tr} {m : Nat} {x : α} (h : m = l.length) : (l.map f).take m ++ [f x] = (l ++ [x]).map f := by
  subst h; rw [List.map_append, List.take_of_length_le (by simp)]; rfl
theorem rep_map {α : Type} {f : α → List Tr} {m : Nat} {x : α} : List.replicate m (f x) = (List.replicate m x).map f := by rw [List.map_replicate]
/-- A contract by an equation: what a call gives, and what it makes. -/
def Cd (P : Program) (f : FuncId) (args : List AV) (r : AV) (L : List Ob) : Prop := C P f args [] (fun r' L' => r' = r ∧ L' = L)
theorem Cd.enter {P : Program} {f : FuncId} {fn : Func} {c : Code} (hf : P.funcs[f]? = some fn) (hb : fn.body = some c) {args : List AV} {r : AV} {L : List Ob} {N : Nat} (hN : max args.length fn.ntmps = N) (h : AW P c (retQ P fn (fun r' L' => r' = r ∧ L' = L) ⟨N, 0⟩) ⟨N, 0⟩ (argT args) []) : Cd P f args r L :=
  C.enter hf hb hN h
theorem Cd.enter' {P : Program} {f : FuncId} {fn : Func} {c : Code} (hf : P.funcs[f]? = some fn) (hb : fn.body = some c) {args : List AV} {r : AV} {L : List Ob} {N : Nat} (hn : fn.ntmps = N) (hle : Nat.ble args.length N = true) (h : AW P c (retQ P fn (fun r' L' => r' = r ∧ L' = L) ⟨N, 0⟩) ⟨N, 0⟩ (argT args) []) : Cd P f args r L :=
  C.enter hf hb (by rw [hn]; exact Nat.max_eq_right (Nat.le_of_ble_eq_true hle)) h
theorem C.enter' {P : Program} {f : FuncId} {fn : Func} {c : Code} (hf : P.funcs[f]? = some fn) (hb : fn.body = some c) {args : List AV} {H : List Ob} {R : AV → List Ob → Prop} {N : Nat} (hn : fn.ntmps = N) (hle : Nat.ble args.length N = true) {M : Nat} (hM : H.length = M) (h : AW P c (retQ P fn R ⟨N, M⟩) ⟨N, M⟩ (argT args) H) : C P f args H R := by
  subst hM
  exact C.enter hf hb (by rw [hn]; exact Nat.max_eq_right (Nat.le_of_ble_eq_true hle)) h
theorem take_drop_map {α : Type} {f : α → List Tr} {l : List α} {off m : Nat} (h : l.length ≤ off + m) : ((l.map f).drop off).take m = (l.drop off).map f := by
  rw [← List.map_drop, List.take_of_length_le (by simp; omega)]
theorem take_drop_map' {α : Type} {f : α → List Tr} {l : List α} {off m : Nat} : ((l.map f).drop off).take m = ((l.drop off).take m).map f := by
  rw [← List.map_drop, ← List.map_take]
theorem Pass.subE {heap : List Ob} {sel : List Nat} {i k off m : Nat} {E : TypeId} {s : Nat} {els els' : List (List Tr)} (hi : heap[i]? = some (.row k E s els)) (hn : sel.contains i = false) (he : (els.drop off).take m = els') (hm : off + m ≤ els.length) : Pass heap sel (.sub i k off m) (.ln els') := by
  subst he
  exact .sub hi hn hm
theorem Pass.ownE {heap : List Ob} {sel : List Nat} {i k m : Nat} {E : TypeId} {s : Nat} {α : Type} {f : α → List Tr} {l : List α} (hi : heap[i]? = some (.row k E s (l.map f))) (hn : sel.contains i = false) (hm : m ≤ l.length) : Pass heap sel (.sl i k m) (.ln ((l.take m).map f)) := by
  rw [List.map_take]
  exact .own hi hn (by simpa using hm)
theorem get_D {α : Type} {l : List α} {i : Nat} {x : α} (h : i < l.length) : l[i]? = some (l.getD i x) := by
  rw [List.getD_eq_getElem?_getD, List.getElem?_eq_getElem h]; rfl
/-- A loop with what is known of its rounds. -/
theorem AW.loopP {P : Program} {Q : QS} {n : Fr} {T : Nat → AV} {heap : List Ob} {c : Code} {ι : Type} (I : ι → Prop) (S : ι → Nat → AV) (H : ι → List Ob) (m : ι → Nat) (i0 : ι) (hi : I i0) (h0 : Wk n T heap (S i0) (H i0))
    (hr : ∀ i, I i → AW P c (thenQ (fun T' h' => ∃ j, I j ∧ m j < m i ∧ Wk n T' h' (S j) (H j)) Q) n (S i) (H i)) : AW P (.loop c) Q n T heap :=
  AW.loop (ι := {i : ι // I i}) (fun i => S i.1) (fun i => H i.1) (fun i => m i.1) ⟨i0, hi⟩ h0 fun i => by
    have := hr i.1 i.2
    intro e a w hR b k cs
    obtain ⟨ex, a', w', h1, h2⟩ := this e a w hR b k cs
    refine ⟨ex, a', w', ?_, h2⟩
    obtain ⟨T', h', q1, q2⟩ := h1
    refine ⟨T', h', ?_, q2⟩
    cases ex <;> first | exact q1 | (obtain ⟨j, j1, j2, j3⟩ := q1; exact ⟨⟨j, j1⟩, j2, j3⟩)
theorem all_eq {α : Type} {a b : List α} {z : α} (hl : a.length = b.length) (h : ∀ j, j < a.length → a.getD j z = b.getD j z) : a = b := by
  apply List.ext_getElem?
  intro j
  by_cases hj : j < a.length
  · rw [get_D (x := z) hj, get_D (x := z) (by omega), h j hj]
  · rw [List.getElem?_eq_none (by omega), List.getElem?_eq_none (by omega)]
/-- The objects that a value speaks of. -/
def idsF : Nat → AV → List Nat
  | 0, _ => []
  | k + 1, x => match x with
    | .sl i _ _ => [i]
    | .sub i _ _ _ => [i]
    | .ptr i _ => [i]
    | .rp i _ _ _ => [i]
    | .fn _ a b => a.flatMap (idsF k) ++ b.flatMap (idsF k)
    | .agg l => l.flatMap (idsF k)
    | .tup l => l.flatMap (idsF k)
    | .lp l => l.flatMap (idsF k)
    | _ => []
def idsVs (l : List AV) : List Nat := l.flatMap (idsF 5)
def boxCs : Option Ob → List AV
  | some (.box _ cs) => cs
  | _ => []
def deep (heap : List Ob) : Nat → List Nat → List Nat
  | 0, l => l
  | k + 1, l => l ++ deep heap k (l.flatMap fun i => idsVs (boxCs heap[i]?))
def isHole : Option Ob → Bool
  | some .hole => true
  | _ => false
section
variable {P : Program} {ops : Array Oper} {Q : QS} {rest : List Oper} {o : Oper} {n : Fr} {T : Nat → AV} {heap : List Ob} {d : Nat}
theorem AL.split (d : Nat) {b : Bool} (hd : evA n T (.tmp d) = .t (.v (.bool b))) (ht : b = true → AL P ops Q rest n (pu T d (.t (.v (.bool true)))) heap) (hf : b = false → AL P ops Q rest n (pu T d (.t (.v (.bool false)))) heap) : AL P ops Q rest n T heap := by
  rintro e a w ⟨ρ, Z, Y, hR⟩
  have hv := hR.eval (.tmp d)
  rw [hd] at hv
  have key : ∀ (t : Nat) (v : Value), a.tmps[t]? = some v → Val (Kn heap) ρ w Z Y (pu T d (.t (.v (.bool b))) t) v := fun t v hx => by
    by_cases e : t = d
    · subst e
      have e2 : a.eval (.tmp t) = v := by simp only [Act.eval, Array.getD_eq_getD_getElem?, hx, Option.getD_some]
      rw [e2] at hv
      simp only [pu, Nat.beq_refl, cond_true]
      exact hv
    · simp only [pu, beq_ne e, cond_false]
      exact hR.at_ t v hx
  cases b with
  | true => exact ht rfl e a w ⟨ρ, Z, Y, hR.ok, hR.defers, hR.n, hR.hl, key⟩
  | false => exact hf rfl e a w ⟨ρ, Z, Y, hR.ok, hR.defers, hR.n, hR.hl, key⟩
theorem A_calld (hw : wantedA n T ops o = true) (hd : o.dst = some d) {f : FuncId} {fn : Func} (hf : P.funcs[f]? = some fn) (hn : (fn.name == "runtime.NumGoroutine") = false) (hb : fn.body.isNone = false) {args : Array Operand} {tys : Array TypeId}
    (ho : o.op = .call { callee := .value (.func f), args := args, argTypes := tys }) {xs : List AV} {r : AV} {L : List Ob} (hc : Cd P f xs r L) (hp : PassL heap [] (args.toList.map (evA n T)) xs) {N : Nat} (hN : heap.length = N) {r' : AV} (hr : upA (shiftG N) r = r') {L' : List Ob} (hL : L.map (upO (shiftG N)) = L') {heap' : List Ob} (hh : heap ++ L' = heap')
    (k : AL P ops Q rest n (pu T d r') heap') : AL P ops Q (o :: rest) n T heap := by
  subst hr hL
  refine A_call hw hd hf hn hb ho hp hc N ?_
  rintro _ _ ⟨rfl, rfl⟩
  exact ⟨heap', .push hN hh, k⟩
theorem setAll_at : ∀ (L : List Ob) (heap : List Ob) (N : Nat), N + L.length ≤ heap.length → setAll heap ((L.zipIdx N).map (fun p => (p.2, p.1))) = setsAt heap N L
  | [], heap, N, _ => by simp [setAll, setsAt]
  | o :: L, heap, N, h => by
    simp only [List.length_cons] at h
    rw [List.zipIdx_cons, List.map_cons, setAll, setAll_at L _ (N + 1) (by simp; omega)]
    unfold setsAt
    simp only [List.length_cons]
    rw [List.drop_set_of_lt (by omega), List.take_set]
    have e1 : (heap.take (N + 1)).set N o = heap.take N ++ [o] := by
      rw [List.take_succ_eq_append_getElem (by omega), List.set_append_right _ _ (by simp; omega)]
      simp [Nat.min_eq_left (show N ≤ heap.length by omega)]
    rw [e1, show N + 1 + L.length = N + (L.length + 1) by omega]
    simp
theorem R_calld (hw : wantedA n T ops o = true) (hd : o.dst = some d) {f : FuncId} {fn : Func} (hf : P.funcs[f]? = some fn) (hn : (fn.name == "runtime.NumGoroutine") = false) (hb : fn.body.isNone = false) {args : Array Operand} {tys : Array TypeId}
    (ho : o.op = .call { callee := .value (.func f), args := args, argTypes := tys }) {xs : List AV} {r : AV} {L : List Ob} (hc : Cd P f xs r L) {acc : List Nat} (ha : deep heap 3 (idsVs (args.toList.map (evA n T))) = acc) (hp : ∀ h', (∀ i, acc.contains i = true → h'[i]? = heap[i]?) → PassL h' [] (args.toList.map (evA n T)) xs)
    (N : Nat) (hN : (L.zipIdx N).all (fun p => isHole heap[p.2]?) = true) {r' : AV} (hr : upA (shiftG N) r = r') {L' : List Ob} (hL : L.map (upO (shiftG N)) = L') {heap' : List Ob} (hh : setAll heap ((L'.zipIdx N).map (fun p => (p.2, p.1))) = heap')
    {F : List Dl → (Nat → AV) → List Ob → Prop} {ac : List Dl} (k : RG P ops n F rest (ac ++ [⟨some d, r', (L'.zipIdx N).map (fun p => (p.2, p.1)), (L'.zipIdx N).map (·.2) ++ acc⟩]) (pu T d r') heap') : RG P ops n F (o :: rest) ac T heap := by
  subst hr hL
  have hlk : ∀ x ∈ args.toList, x ∈ o.op.operands.toList := fun x hx => by rw [ho]; simp only [Op.operands, Call.operands, Array.toList_append]; exact List.mem_append_right _ hx
  have hole : ∀ q, q < L.length → heap[N + q]? = some .hole := fun q hq => by
    have := List.all_eq_true.1 hN (L[q], N + q) (List.mem_of_getElem? (i := q) (by rw [List.getElem?_zipIdx, List.getElem?_eq_getElem hq]; rfl))
    simp only at this
    cases hx : heap[N + q]? with
    | none => rw [hx] at this; cases this
    | some p => rw [hx] at this; cases p <;> first | rfl | (cases this; done)
  have hlen : ∀ h' : List Ob, h'.length = heap.length → (L.map (upO (shiftG N))) = [] ∨ N + (L.map (upO (shiftG N))).length ≤ h'.length := fun h' hl => by
    by_cases h0 : L.length = 0
    · exact .inl (by rw [List.eq_nil_of_length_eq_zero h0]; rfl)
    · have := get_lt (hole (L.length - 1) (by omega))
      exact .inr (by simp; omega)
  refine RG.cons (D := ⟨some d, _, ((L.map (upO (shiftG N))).zipIdx N).map (fun p => (p.2, p.1)), ((L.map (upO (shiftG N))).zipIdx N).map (·.2) ++ acc⟩) hd.symm (fun T' h' hT hH hl => ?_) rfl hh k
  have hargs : args.toList.map (evA n T') = args.toList.map (evA n T) := List.map_congr_left fun x hx => ev_eq hT (hlk x hx)
  refine A_call (by rw [wanted_eqA hT]; exact hw) hd hf hn hb ho (by rw [hargs]; exact hp h' fun i hi => hH i (List.mem_append_right _ (by simpa using hi))) hc N ?_
  rintro r1 L1 ⟨hr1, hL1⟩
  rw [hr1, hL1]
  refine ⟨setsAt h' N (L.map (upO (shiftG N))), .fill (fun q hq => ?_) rfl, AL.nil ⟨rfl, rfl, ?_⟩⟩
  · rw [hH (N + q) (List.mem_append_left _ ?_)]
    · exact hole q (by simpa using hq)
    · refine List.mem_map.2 ⟨((L.map (upO (shiftG N)))[q], N + q), List.mem_of_getElem? (i := q) ?_, rfl⟩
      rw [List.getElem?_zipIdx, List.getElem?_eq_getElem hq]; rfl
  · show _ = setAll h' _
    rcases hlen h' hl with h0 | h0
    · rw [h0]; simp [setAll, setsAt]
    · rw [setAll_at _ _ _ h0]
theorem R_callA (hw : wantedA n T ops o = true) (hd : o.dst = some d) {f : FuncId} {fn : Func} (hf : P.funcs[f]? = some fn) (hn : (fn.name == "runtime.NumGoroutine") = false) (hb : fn.body.isNone = false) {args : Array Operand} {tys : Array TypeId}
    (ho : o.op = .call { callee := .value (.func f), args := args, argTypes := tys }) {xs : List AV} {r : AV} {L : List Ob} (hc : Cd P f xs r L) {acc : List Nat} (ha : deep heap 3 (idsVs (args.toList.map (evA n T))) = acc) (hp : ∀ h', (∀ i, acc.contains i = true → h'[i]? = heap[i]?) → PassL h' [] (args.toList.map (evA n T)) xs)
    {F : List Dl → (Nat → AV) → List Ob → Prop} {ac : List Dl} (k : ∃ (N : Nat) (r' : AV) (L' heap' : List Ob), (L.zipIdx N).all (fun p => isHole heap[p.2]?) = true ∧ upA (shiftG N) r = r' ∧ L.map (upO (shiftG N)) = L' ∧ setAll heap ((L'.zipIdx N).map (fun p => (p.2, p.1))) = heap' ∧
      RG P ops n F rest (ac ++ [⟨some d, r', (L'.zipIdx N).map (fun p => (p.2, p.1)), (L'.zipIdx N).map (·.2) ++ acc⟩]) (pu T d r') heap') : RG P ops n F (o :: rest) ac T heap := by
  obtain ⟨N, r', L', heap', hN, hr, hL, hh, k⟩ := k
  exact R_calld hw hd hf hn hb ho hc ha hp N hN hr hL hh k

end
end Go.Proofs.Ytkichjejadkdgaa
