/- One operation at a time, over trees. AL P ops Q rest n T heap: from slots T (n of them) and objects 'heap' the operations 'rest' end in Q. No program in sight. -/
import Derived.Test.YtkichjejadkdgaaTRep
import Derived.Test.YtkichjejadkdgaaStep
namespace Go.Proofs.Ytkichjejadkdgaa
set_option linter.unusedVariables false
set_option linter.unusedSimpArgs false
set_option linter.unnecessarySimpa false
open Go.RowKit

abbrev QS := Exit → (Nat → AV) → List Ob → Prop
def ofCell (v : Value) : AV := match v with
  | .slice a n c => bif a.isNone && (Nat.beq n 0 && Nat.beq c 0) then .nl else .t (.v v)
  | v => .t (.v v)
def ofConst (v : Value) : AV := match v with
  | .agg cs => bif cs.toList.all (·.oneCell') then .agg (cs.toList.map ofCell) else .any
  | .tuple vs => bif vs.toList.isEmpty then .tup [] else .any
  | v => ofCell v
def pu (T : Nat → AV) (d : Nat) (x : AV) : Nat → AV := fun t => bif Nat.beq t d then x else T t
def evA (n : Fr) (T : Nat → AV) : Operand → AV
  | .tmp t => bif Nat.blt t n.n then T t else .any
  | .const v => ofConst v
  | .global _ => .any
  | .func f => .fn (.func f) [] []
def lift (e : Env) (n : Fr) (Q : QS) : Exit → Act → World → Prop := fun ex a w => ∃ T heap, Q ex T heap ∧ Rep e ⟨n, T, heap⟩ a w
def AL (P : Program) (ops : Array Oper) (Q : QS) (rest : List Oper) (n : Fr) (T : Nat → AV) (heap : List Ob) : Prop :=
  ∀ e a w, Rep e ⟨n, T, heap⟩ a w → wpList P ops (lift e n Q) rest a w

theorem val_ofCell {Kn : Nat → Nat → Prop} {ρ : Rho} {w : World} {Z Y : Nat → Prop} {v : Value} (h : v.oneCell' = true) : Val Kn ρ w Z Y (ofCell v) v := by
  cases v with
  | slice a n c =>
    simp only [ofCell]
    cases hb : (a.isNone && (Nat.beq n 0 && Nat.beq c 0)) with
    | true =>
      simp at hb
      obtain ⟨rfl, rfl, rfl⟩ := hb
      exact .nl _
    | false => exact .t (.v h)
  | _ => exact .t (.v h)
theorem val_ofConst {Kn : Nat → Nat → Prop} {ρ : Rho} {w : World} {Z Y : Nat → Prop} (v : Value) : Val Kn ρ w Z Y (ofConst v) v := by
  cases v with
  | agg cs =>
    simp only [ofConst]
    cases hb : cs.toList.all (·.oneCell') with
    | true =>
      have h' : ∀ u ∈ cs.toList, u.oneCell' = true := List.all_eq_true.1 hb
      have := Val.agg (Kn := Kn) (ρ := ρ) (w := w) (Z := Z) (Y := Y) (l := cs.toList.map ofCell) (us := cs.toList) (by simp) h' (fun j x u hj hu => by
        rw [List.getElem?_map, hu] at hj
        cases hj
        exact val_ofCell (h' u (List.mem_of_getElem? hu)))
      simpa using this
    | false => exact .any _
  | tuple vs =>
    simp only [ofConst]
    cases hb : vs.toList.isEmpty with
    | true =>
      have : vs = #[] := by simpa using hb
      subst this
      exact .tup (us := []) rfl (fun j x u hj => by simp at hj)
    | false => exact .any _
  | bool b => exact val_ofCell (v := .bool b) rfl
  | int k i => exact val_ofCell (v := .int k i) rfl
  | float k b => exact val_ofCell (v := .float k b) rfl
  | complex k b c => exact val_ofCell (v := .complex k b c) rfl
  | string b => exact val_ofCell (v := .string b) rfl
  | pointer b => exact val_ofCell (v := .pointer b) rfl
  | slice b c d => exact val_ofCell (v := .slice b c d) rfl
  | map b => exact val_ofCell (v := .map b) rfl
  | chan b => exact val_ofCell (v := .chan b) rfl
  | func b c d => exact val_ofCell (v := .func b c d) rfl
  | nilFunc => exact val_ofCell (v := .nilFunc) rfl
  | iface b c => exact val_ofCell (v := .iface b c) rfl
  | nilIface => exact val_ofCell (v := .nilIface) rfl
section
variable {P : Program} {ops : Array Oper} {Q : QS} {rest : List Oper} {o : Oper} {n : Fr} {T : Nat → AV} {heap : List Ob} {e : Env} {a : Act} {w w' : World} {ρ ρ' : Rho} {Z Z' Y Y' : Nat → Prop}
theorem Rp.eval (h : Rp e ⟨n, T, heap⟩ a w ρ Z Y) (x : Operand) : Val (Kn heap) ρ w Z Y (evA n T x) (a.eval x) := by
  cases x with
  | tmp t =>
    have hn : a.tmps.size = n.n := h.n
    by_cases ht : t < n.n
    · have h1 : Nat.blt t n.n = true := Nat.ble_eq_true_of_le ht
      have h2 : a.tmps[t]? = some (a.tmps[t]'(by rw [hn]; exact ht)) := Array.getElem?_eq_getElem (by rw [hn]; exact ht)
      have := h.at_ t _ h2
      simp only [evA, h1, cond_true, Act.eval, Array.getD_eq_getD_getElem?, h2, Option.getD_some]
      exact this
    · have h1 : Nat.blt t n.n = false := by
        cases hb : Nat.blt t n.n
        · rfl
        · exact absurd (Nat.le_of_ble_eq_true hb) ht
      simp only [evA, h1, cond_false]
      exact .any _
  | const v => exact val_ofConst v
  | global g => exact .any _
  | func f => exact .fn (us := []) (vs := []) rfl rfl (fun j x u hj => by simp at hj) (fun j x u hj => by simp at hj)
theorem Rp.put (h : Rp e ⟨n, T, heap⟩ a w ρ Z Y) (d : Nat) {x : AV} {v : Value} (hv : Val (Kn heap) ρ w Z Y x v) : Rp e ⟨n, pu T d x, heap⟩ (a.put (some d) v) w ρ Z Y := by
  refine ⟨h.ok, h.defers, ?_, h.hl, fun t u ht => ?_⟩
  · have := h.n
    simpa [Act.put] using this
  · rw [put_get] at ht
    by_cases e : d = t
    · subst e
      rw [if_pos rfl] at ht
      split at ht
      · cases ht
        simp only [pu, Nat.beq_refl, cond_true]
        exact hv
      · cases ht
    · rw [if_neg (by simpa using e)] at ht
      have h1 : Nat.beq t d = false := by
        cases hb : Nat.beq t d
        · rfl
        · exact absurd (Nat.eq_of_beq_eq_true hb).symm e
      simp only [pu, h1, cond_false]
      exact h.at_ t u ht
theorem Rp.move {heap' : List Ob} (h : Rp e ⟨n, T, heap⟩ a w ρ Z Y) (hok : Ok e heap' w' ρ' Z' Y') (hm : ∀ x v, Val (Kn heap) ρ w Z Y x v → Val (Kn heap') ρ' w' Z' Y' x v) : Rp e ⟨n, T, heap'⟩ a w' ρ' Z' Y' :=
  ⟨hok, h.defers, h.n, h.hl, fun t v ht => hm _ _ (h.at_ t v ht)⟩

/-! the whole call's record goes on -/
structure Same3 (w w' : World) : Prop where
  os : w'.os = w.os
  tape : w'.tape = w.tape
  output : w'.output = w.output
theorem Ok.mono {heap' : List Ob} (h : Ok e heap w ρ Z Y) (hr : HRep heap' w' ρ' Z' Y') (hρ : ∀ j k, Kn heap j k → Kn heap' j k ∧ ρ' j k = ρ j k) (h3 : Same3 w w') (hs : w.heap.size ≤ w'.heap.size)
    (hdom : ∀ (i : Nat) (o : Ob) (b : Nat), heap'[i]? = some o → o.blk ρ' i = some b → e.D b) (hz : ∀ b, Z b → Z' b) (hy : ∀ b, Y b → Y' b) (hzz : ∀ b, Z' b → Z b ∨ e.D b) (hk : ∀ b, b < w.heap.size → ¬ e.D b → w'.heap[b]? = w.heap[b]?) : Ok e heap' w' ρ' Z' Y' := by
  refine ⟨hr, hdom, fun b hb => ?_, fun b hb => hz b (h.z0 b hb), fun b hb => hy b (h.y0 b hb), fun i k hk' => ?_, by rw [h3.os, h.os], by rw [h3.tape, h.tape], by rw [h3.output, h.output], Nat.le_trans h.size hs, fun b hb => ?_⟩
  · rcases hzz b hb with h1 | h1
    · exact h.zone b h1
    · exact .inr h1
  · obtain ⟨h1, h2⟩ := h.rho i k hk'
    obtain ⟨h3, h4⟩ := hρ i k h1
    exact ⟨h3, h4.trans h2⟩
  · have hlt : b < w.heap.size := by
      have := h.size
      rcases Nat.lt_or_ge b e.W.heap.size with h1 | h1
      · omega
      · exact absurd (e.big b h1) hb
    rw [hk b hlt hb, h.keep b hb]
theorem Ok.turn (h : Ok e heap w ρ Z Y) {i : Nat} {o o' : Ob} (hi : heap[i]? = some o) (hv : o.lim ≤ o'.lim) (hρ : ∀ j k, Kn heap j k → ρ' j k = ρ j k) (h3 : Same3 w w') (hs : w.heap.size ≤ w'.heap.size)
    (hk : ∀ b, b < w.heap.size → o.blk ρ i ≠ some b → w'.heap[b]? = w.heap[b]?) (hh : o'.holds (Val (Kn (heap.set i o')) ρ' w' Z Y) ρ' w' Z i)
    (hb : ∀ b, o'.blk ρ' i = some b → o.blk ρ i = some b ∨ (w.heap.size ≤ b ∧ b < w'.heap.size)) : Ok e (heap.set i o') w' ρ' Z Y := by
  refine h.mono (h.rep.turn hi hv hρ hs hk hh hb) (fun j k hj => ⟨hj.set hi hv, hρ j k hj⟩) h3 hs (fun j p b hj hp => ?_) (fun _ h => h) (fun _ h => h) (fun b hb => .inl hb) (fun b hlt hD => hk b hlt fun hb' => hD (h.dom i o b hi hb'))
  rw [List.getElem?_set] at hj
  split at hj
  · rename_i he
    subst he
    split at hj <;> cases hj
    rcases hb b hp with h1 | h1
    · exact h.dom i o b hi h1
    · exact e.big b (Nat.le_trans h.size h1.1)
  · rw [Ob.blk_mono fun k hk' => hρ j k ⟨p, hj, hk'⟩] at hp
    exact h.dom j p b hj hp
theorem Ok.push (h : Ok e heap w ρ Z Y) {N : Nat} {L heap' : List Ob} (hat : AtL heap N L heap') (hρ : ∀ j k, Kn heap j k → ρ' j k = ρ j k) (h3 : Same3 w w') (hs : w.heap.size ≤ w'.heap.size) (hk : ∀ b, b < w.heap.size → w'.heap[b]? = w.heap[b]?)
    (hz : ∀ b, Z b → Z' b) (hy : ∀ b, Y b → Y' b) (hzy : ∀ b, Z' b → Y' b) (hyn : ∀ b, Y' b → Y b ∨ (w.heap.size ≤ b ∧ b < w'.heap.size)) (hzn : ∀ b, Z' b → Z b ∨ (w.heap.size ≤ b ∧ b < w'.heap.size))
    (hL : ∀ (q : Nat) (o : Ob), L[q]? = some o → o.holds (Val (Kn heap') ρ' w' Z' Y') ρ' w' Z' (N + q)) (ha : ∀ (q r : Nat) (o o' : Ob) (b : Nat), L[q]? = some o → L[r]? = some o' → o.blk ρ' (N + q) = some b → o'.blk ρ' (N + r) = some b → q = r)
    (ho : ∀ (q : Nat) (o : Ob) (b : Nat), L[q]? = some o → o.blk ρ' (N + q) = some b → w.heap.size ≤ b ∧ b < w'.heap.size ∧ ¬ Y' b) : Ok e heap' w' ρ' Z' Y' := by
  refine h.mono (h.rep.push hat hρ hs hk hz hy hzy hyn hL ha ho) (fun j k hj => ⟨(hat.kn hj).1, hρ j k hj⟩) h3 hs (fun j p b hj hp => ?_) hz hy (fun b hb => ?_) (fun b hlt _ => hk b hlt)
  · rcases hat.part hj with ⟨hj, _⟩ | ⟨q, rfl, hq⟩
    · rw [Ob.blk_mono fun k hk' => hρ j k ⟨p, hj, hk'⟩] at hp
      exact h.dom j p b hj hp
    · exact e.big b (Nat.le_trans h.size (ho q p b hq hp).1)
  · rcases hzn b hb with h1 | h1
    · exact .inl h1
    · exact .inr (e.big b (Nat.le_trans h.size h1.1))
/-- One new object. -/
theorem Ok.push1 (h : Ok e heap w ρ Z Y) {o : Ob} {N : Nat} {heap' : List Ob} (hat : AtL heap N [o] heap') {pl : Pl} (h3 : Same3 w w') (hs : w.heap.size ≤ w'.heap.size) (hk : ∀ b, b < w.heap.size → w'.heap[b]? = w.heap[b]?)
    (hL : ∀ ρ' : Rho, (∀ k, ρ' N k = pl) → (∀ j k, Kn heap j k → ρ' j k = ρ j k) → o.holds (Val (Kn heap') ρ' w' Z Y) ρ' w' Z N)
    (ho : ∀ b, pl.a.map (·.block) = some b → o.blk (fun _ _ => pl) 0 = some b → w.heap.size ≤ b ∧ b < w'.heap.size) :
    ∃ ρ' : Rho, Ok e heap' w' ρ' Z Y ∧ (∀ x v, Val (Kn heap) ρ w Z Y x v → Val (Kn heap') ρ' w' Z Y x v) ∧ (∀ k, ρ' N k = pl) ∧ ∀ j k, Kn heap j k → ρ' j k = ρ j k := by
  let ρ' : Rho := fun j k => if j = N then pl else ρ j k
  have hρ : ∀ j k, Kn heap j k → ρ' j k = ρ j k := fun j k hj => if_neg ((hat.kn hj).2 0 (by simp))
  have hN : ∀ k, ρ' N k = pl := fun k => if_pos rfl
  have hy' : ∀ b, Y b → Y b ∧ w'.heap[b]? = w.heap[b]? := fun b hb => ⟨hb, hk b (h.rep.ylt b hb)⟩
  refine ⟨ρ', h.push hat hρ h3 hs hk (fun _ h => h) (fun _ h => h) h.rep.zy (fun b hb => .inl hb) (fun b hb => .inl hb) (fun q p hq => ?_) (fun q r p p' b hq hr _ _ => ?_) (fun q p b hq hp => ?_), fun x v hv => h.rep.val (fun j k hj => ⟨(hat.kn hj).1, hρ j k hj⟩) (fun _ h => h) hy' hv, hN, hρ⟩
  · cases q with
    | zero => simp at hq; subst hq; exact hL ρ' hN hρ
    | succ q => simp at hq
  · have := get_lt hq
    have := get_lt hr
    simp at *
    omega
  · cases q with
    | zero =>
      simp at hq; subst hq
      have e1 : o.blk ρ' (N + 0) = o.blk (fun _ _ => pl) 0 := Ob.blk_mono fun k _ => hN k
      rw [e1] at hp
      have e2 : pl.a.map (·.block) = some b := by
        cases o with
        | box => exact hp
        | row => simp only [Ob.blk] at hp; split at hp; cases hp; exact hp
        | gone => cases hp
        | hole => cases hp
      have := ho b e2 hp
      exact ⟨this.1, this.2, fun hy => by have := h.rep.ylt b hy; omega⟩
    | succ q => simp at hq

/-! an operation -/
def wantedA (n : Fr) (T : Nat → AV) (ops : Array Oper) (o : Oper) : Bool :=
  match o.guard with
  | none => true
  | some (j, want) => match (ops[j]?).bind (·.dst) with
    | some d => match evA n T (.tmp d) with
      | .t (.v (.bool b)) => b == want
      | _ => false
    | none => false
def skipsA (n : Fr) (T : Nat → AV) (ops : Array Oper) (o : Oper) : Bool :=
  match o.guard with
  | none => false
  | some (j, want) => match (ops[j]?).bind (·.dst) with
    | some d => match evA n T (.tmp d) with
      | .t (.v (.bool b)) => !(b == want)
      | .tup [] => true
      | _ => false
    | none => false
theorem Rp.wanted (h : Rp e ⟨n, T, heap⟩ a w ρ Z Y) (hw : wantedA n T ops o = true) : Region.wanted o (yielded ops a.tmps) = true := by
  unfold wantedA at hw
  unfold Region.wanted
  split at hw
  · rename_i hg; rw [hg]
  · rename_i j want hg
    rw [hg]
    split at hw
    · rename_i d hd
      have hv := h.eval (.tmp d)
      split at hw
      · rename_i b hb
        rw [hb] at hv
        simp only [yielded, hd, Option.bind_some]
        cases ht : a.tmps[d]? with
        | none => simp [Act.eval, Array.getD_eq_getD_getElem?, ht, undef] at hv; cases hv; rename_i h; cases h
        | some u =>
          simp only [Act.eval, Array.getD_eq_getD_getElem?, ht, Option.getD_some] at hv
          cases hv; rename_i h; cases h
          have : b = want := by simpa using hw
          subst this
          simp
      · cases hw
    · cases hw
theorem Rp.skips (h : Rp e ⟨n, T, heap⟩ a w ρ Z Y) (hw : skipsA n T ops o = true) : Region.wanted o (yielded ops a.tmps) = false := by
  unfold skipsA at hw
  unfold Region.wanted
  split at hw
  · cases hw
  · rename_i j want hg
    rw [hg]
    split at hw
    · rename_i d hd
      have hv := h.eval (.tmp d)
      split at hw
      · rename_i b hb
        rw [hb] at hv
        simp only [yielded, hd, Option.bind_some]
        cases ht : a.tmps[d]? with
        | none => simp
        | some u =>
          simp only [Act.eval, Array.getD_eq_getD_getElem?, ht, Option.getD_some] at hv
          cases hv; rename_i h; cases h
          have : b ≠ want := by simpa using hw
          simp [this]
      · rename_i hb
        rw [hb] at hv
        simp only [yielded, hd, Option.bind_some]
        cases ht : a.tmps[d]? with
        | none => simp
        | some u =>
          simp only [Act.eval, Array.getD_eq_getD_getElem?, ht, Option.getD_some] at hv
          cases hv
          simp
      · cases hw
    · cases hw
theorem AL.val {d : Nat} {x : AV} (hw : wantedA n T ops o = true) (hd : o.dst = some d)
    (h : ∀ e a w ρ Z Y, Rp e ⟨n, T, heap⟩ a w ρ Z Y → ∃ v, (execOp a.eval o).run P w = .ok (.value v) w ∧ Val (Kn heap) ρ w Z Y x v) (k : AL P ops Q rest n (pu T d x) heap) : AL P ops Q (o :: rest) n T heap := by
  rintro e a w ⟨ρ, Z, Y, hR⟩
  obtain ⟨v, h1, h2⟩ := h e a w ρ Z Y hR
  refine wpList_val (hR.wanted hw) h1 (k e _ _ ⟨ρ, Z, Y, ?_⟩)
  rw [hd]
  exact hR.put d h2
theorem AL.act {d : Nat} {x : AV} {heap' : List Ob} (hw : wantedA n T ops o = true) (hd : o.dst = some d)
    (h : ∀ e a w ρ Z Y, Rp e ⟨n, T, heap⟩ a w ρ Z Y → ∃ v w' ρ' Z' Y', (execOp a.eval o).run P w = .ok (.value v) w' ∧ Ok e heap' w' ρ' Z' Y' ∧ (∀ x v, Val (Kn heap) ρ w Z Y x v → Val (Kn heap') ρ' w' Z' Y' x v) ∧ Val (Kn heap') ρ' w' Z' Y' x v)
    (k : AL P ops Q rest n (pu T d x) heap') : AL P ops Q (o :: rest) n T heap := by
  rintro e a w ⟨ρ, Z, Y, hR⟩
  obtain ⟨v, w', ρ', Z', Y', h1, h2, h3, h4⟩ := h e a w ρ Z Y hR
  refine wpList_val (hR.wanted hw) h1 (k e _ _ ⟨ρ', Z', Y', ?_⟩)
  rw [hd]
  exact (hR.move h2 h3).put d h4
theorem AL.unit {heap' : List Ob} (hw : wantedA n T ops o = true) (hd : o.dst = none)
    (h : ∀ e a w ρ Z Y, Rp e ⟨n, T, heap⟩ a w ρ Z Y → ∃ w' ρ' Z' Y', (execOp a.eval o).run P w = .ok .skip w' ∧ Ok e heap' w' ρ' Z' Y' ∧ (∀ x v, Val (Kn heap) ρ w Z Y x v → Val (Kn heap') ρ' w' Z' Y' x v))
    (k : AL P ops Q rest n T heap') : AL P ops Q (o :: rest) n T heap := by
  rintro e a w ⟨ρ, Z, Y, hR⟩
  obtain ⟨w', ρ', Z', Y', h1, h2, h3⟩ := h e a w ρ Z Y hR
  refine wpList_unit (hR.wanted hw) h1 (k e _ _ ⟨ρ', Z', Y', ?_⟩)
  rw [hd]
  exact hR.move h2 h3
theorem AL.skip {d : Nat} (hw : skipsA n T ops o = true) (hd : o.dst = some d) (k : AL P ops Q rest n (pu T d (.tup [])) heap) : AL P ops Q (o :: rest) n T heap := by
  rintro e a w ⟨ρ, Z, Y, hR⟩
  unfold wpList
  rw [if_neg (by rw [hR.skips hw]; simp), hd]
  exact k e _ _ ⟨ρ, Z, Y, hR.put d (.tup (us := []) rfl (fun j x u hj => by simp at hj))⟩
theorem AL.skip0 (hw : skipsA n T ops o = true) (hd : o.dst = none) (k : AL P ops Q rest n T heap) : AL P ops Q (o :: rest) n T heap := by
  rintro e a w ⟨ρ, Z, Y, hR⟩
  unfold wpList
  rw [if_neg (by rw [hR.skips hw]; simp), hd]
  exact k e _ _ ⟨ρ, Z, Y, hR⟩
theorem AL.nil (h : Q .normal T heap) : AL P ops Q [] n T heap := fun e a w hR => ⟨T, heap, h, hR⟩
end
end Go.Proofs.Ytkichjejadkdgaa
