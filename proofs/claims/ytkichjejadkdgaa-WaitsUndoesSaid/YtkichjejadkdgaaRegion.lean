/- A region that draws its order, walked once, in the order of the text. HEAD: operations that give their value in ANY world that is the region's first world with new memory. FREE: operations that give their value in any world at all, and leave it. TAIL: stores, appends, assignments: each behind the whole head and all of the tail ahead of it. Then the order is of no matter. -/
import Derived.Orders
import Derived.Below
import Derived.OwnWalk
namespace Go.Proofs.Ytkichjejadkdgaa
set_option linter.unusedVariables false
set_option linter.unusedSimpArgs false
set_option linter.unnecessarySimpa false
open Go.RowKit
/-- What an operation gives: a value that is known, or one of which something is known (p: of the value alone; R: of the value in a world, and in every later one; own: the blocks that are its own). -/
inductive Spec where
  | val (c : Value)
  | any (p : Value → Prop) (R : Value → Nat → Nat → World → Prop)
def Spec.pure : Spec → Value → Prop
  | .val c, v => v = c
  | .any p _, v => p v
def Spec.fact : Spec → Value → Nat × Nat → World → Prop
  | .val _, _, _, _ => True
  | .any _ R, v, g, w => R v g.1 g.2 w
def Spec.own : Spec → Nat × Nat → Nat → Prop
  | .val _, _, _ => False
  | .any _ _, g, k => g.1 ≤ k ∧ k < g.2
def Spec.good (S : Spec) : Prop := (∃ v, S.pure v) ∧ ∀ v g w w', Below w.heap.size w w' → S.fact v g w → S.fact v g w'
theorem Spec.good_val (c : Value) : (Spec.val c).good := ⟨⟨c, rfl⟩, fun _ _ _ _ _ _ => trivial⟩
abbrev Given := List (Option Tmp × Value × (Nat × Nat) × Spec)
/-- One operation, in whatever later world, from the values that it looks at. -/
def StepOk (P : Program) (ops : Array Oper) (w0 : World) (o : Oper) (a : Act) (F : Given) (S : Spec) : Prop :=
  ∀ w, Below w0.heap.size w0 w → (∀ x ∈ F, (∃ t, x.1 = some t ∧ t ∈ o.looksAt ops) → x.2.2.2.fact x.2.1 x.2.2.1 w) →
    if Region.wanted o (yielded ops a.tmps) then o.wp P a w (fun a' w' => a'.defers = a.defers ∧ Below w.heap.size w w' ∧ ∃ v, a' = a.put o.dst v ∧ S.pure v ∧ S.fact v (w.heap.size, w'.heap.size) w') (fun _ _ _ => False)
    else S.pure undef ∧ S.fact undef (w.heap.size, w.heap.size) w
/-- One operation, in any world. -/
def StepFree (P : Program) (ops : Array Oper) (o : Oper) (a : Act) (c : Value) : Prop :=
  ∀ w, if Region.wanted o (yielded ops a.tmps) then o.wp P a w (fun a' w' => a'.defers = a.defers ∧ w' = w ∧ ∃ v, a' = a.put o.dst v ∧ v = c) (fun _ _ _ => False) else c = undef
/-- What a free operation gives: it hangs on the slots that it looks at, on no world. -/
def opVal (P : Program) (ops : Array Oper) (o : Oper) (a : Act) : Value :=
  if Region.wanted o (yielded ops a.tmps) then (match (execOp a.eval o).run P default with | .ok (.value v) _ => v | _ => undef) else undef
/-- What the values own stands between the region's first world and this one, and no two own the same block. -/
def Apart (w0 w : World) (F : Given) : Prop :=
  (∀ x ∈ F, ∀ k, x.2.2.2.own x.2.2.1 k → w0.heap.size ≤ k ∧ k < w.heap.size) ∧ ∀ x ∈ F, ∀ y ∈ F, x.1 ≠ y.1 → ∀ k, x.2.2.2.own x.2.2.1 k → ¬ y.2.2.2.own y.2.2.1 k
inductive Cls where
  | head (S : Spec)
  | free
  | tail
def Cls.kind : Cls → Nat
  | .head _ => 0
  | .free => 1
  | .tail => 2
def Cls.spec : Cls → Spec
  | .head S => S
  | .free => .val undef
  | .tail => .val undef
/-- The tail ends as it should, with no panic. -/
def Calm (Q : Exit → Act → World → Prop) : Exit → Act → World → Prop := fun e a w => e = .normal ∧ Q .normal a w
def Chain (P : Program) (ops : Array Oper) (w0 : World) (Q : Exit → Act → World → Prop) : List Cls → List Oper → Act → Given → List Oper → Prop
  | [], [], a, F, T => ∀ w, Below w0.heap.size w0 w → (∀ x ∈ F, x.2.2.2.fact x.2.1 x.2.2.1 w) → Apart w0 w F → wpList P ops (Calm Q) T a w
  | .head S :: Ss, o :: rest, a, F, T => S.good ∧ StepOk P ops w0 o a F S ∧ ∀ v g, S.pure v → Chain P ops w0 Q Ss rest (a.put o.dst v) ((o.dst, v, g, S) :: F) T
  | .free :: Ss, o :: rest, a, F, T => StepFree P ops o a (opVal P ops o a) ∧ ∀ g, Chain P ops w0 Q Ss rest (a.put o.dst (opVal P ops o a)) ((o.dst, opVal P ops o a, g, .val (opVal P ops o a)) :: F) T
  | .tail :: Ss, o :: rest, a, F, T => Chain P ops w0 Q Ss rest a F (T ++ [o])
  | _, _, _, _, _ => False
/-! frames -/
theorem put_get (a : Act) (d : Option Tmp) (v : Value) (t : Nat) : (a.put d v).tmps[t]? = if d = some t then (if t < a.tmps.size then some v else none) else a.tmps[t]? := by
  cases d with
  | none => simp [Act.put]
  | some e =>
    by_cases h : e = t
    · subst h; simp [Act.put, Array.getElem?_setIfInBounds]
    · simp [Act.put, h]
theorem put_size (a : Act) (d : Option Tmp) (v : Value) : (a.put d v).tmps.size = a.tmps.size := by cases d <;> simp [Act.put]
theorem put_same {a b : Act} {d : Option Tmp} {v v' : Value} (h : a.put d v = a.put d v') (hs : a.tmps.size = b.tmps.size) : b.put d v = b.put d v' := by
  cases d with
  | none => rfl
  | some t =>
    by_cases ht : t < a.tmps.size
    · have := congrArg (fun x : Act => x.tmps[t]?) h
      simp only [put_get, if_true, ht] at this
      rw [Option.some.inj this]
    · simp [Act.put, Array.setIfInBounds, hs ▸ ht]
theorem put_defers (a : Act) (d : Option Tmp) (v : Value) : (a.put d v).defers = a.defers := by cases d <;> rfl

section
variable {P : Program} {ops : Array Oper} {w0 : World} {Q : Exit → Act → World → Prop} {Ss : List Cls} {o : Oper} {rest : List Oper} {a : Act} {F : Given} {T : List Oper}
theorem Chain.late (k : Chain P ops w0 Q Ss rest a F (T ++ [o])) : Chain P ops w0 Q (.tail :: Ss) (o :: rest) a F T := k
theorem Chain.fin (k : ∀ w, Below w0.heap.size w0 w → (∀ x ∈ F, x.2.2.2.fact x.2.1 x.2.2.1 w) → Apart w0 w F → wpList P ops (Calm Q) T a w) : Chain P ops w0 Q [] [] a F T := k
theorem Chain.pos (c : Value) (hw : Region.wanted o (yielded ops a.tmps) = true)
    (h : ∀ w, Below w0.heap.size w0 w → (∀ x ∈ F, (∃ t, x.1 = some t ∧ t ∈ o.looksAt ops) → x.2.2.2.fact x.2.1 x.2.2.1 w) → o.wp P a w (fun a' w' => a'.defers = a.defers ∧ Below w.heap.size w w' ∧ ∃ v, a' = a.put o.dst v ∧ v = c) (fun _ _ _ => False))
    (k : ∀ g, Chain P ops w0 Q Ss rest (a.put o.dst c) ((o.dst, c, g, .val c) :: F) T) : Chain P ops w0 Q (.head (.val c) :: Ss) (o :: rest) a F T := by
  refine ⟨Spec.good_val c, fun w hb hx => ?_, fun v g hv => by cases hv; exact k g⟩
  rw [if_pos hw]
  exact Oper.wp_mono (fun a' w' ⟨h1, h2, v, h3, h4⟩ => ⟨h1, h2, v, h3, h4, trivial⟩) (h w hb hx)
/-- An operation that gives a value of which something is known. -/
theorem Chain.given (p : Value → Prop) (R : Value → Nat → Nat → World → Prop) (hg : ∃ v, p v) (hR : ∀ v lo hi w w', Below w.heap.size w w' → R v lo hi w → R v lo hi w')
    (hw : Region.wanted o (yielded ops a.tmps) = true)
    (h : ∀ w, Below w0.heap.size w0 w → (∀ x ∈ F, (∃ t, x.1 = some t ∧ t ∈ o.looksAt ops) → x.2.2.2.fact x.2.1 x.2.2.1 w) → o.wp P a w (fun a' w' => a'.defers = a.defers ∧ Below w.heap.size w w' ∧ ∃ v, a' = a.put o.dst v ∧ p v ∧ R v w.heap.size w'.heap.size w') (fun _ _ _ => False))
    (k : ∀ v g, p v → Chain P ops w0 Q Ss rest (a.put o.dst v) ((o.dst, v, g, .any p R) :: F) T) : Chain P ops w0 Q (.head (.any p R) :: Ss) (o :: rest) a F T := by
  refine ⟨⟨hg, fun v g w w' => hR v g.1 g.2 w w'⟩, fun w hb hx => ?_, k⟩
  rw [if_pos hw]
  exact h w hb hx
theorem Chain.skip {c : Value} (hw : Region.wanted o (yielded ops a.tmps) = false) (hc : c = undef)
    (k : ∀ g, Chain P ops w0 Q Ss rest (a.put o.dst c) ((o.dst, c, g, .val c) :: F) T) : Chain P ops w0 Q (.head (.val c) :: Ss) (o :: rest) a F T := by
  subst hc
  refine ⟨Spec.good_val _, fun w hb hx => ?_, fun v g hv => by cases hv; exact k g⟩
  rw [hw]
  exact ⟨rfl, trivial⟩
theorem Chain.loose (c : Value) (hw : Region.wanted o (yielded ops a.tmps) = true) (hr : ∀ w, (execOp a.eval o).run P w = .ok (.value c) w)
    (k : ∀ g, Chain P ops w0 Q Ss rest (a.put o.dst c) ((o.dst, c, g, .val c) :: F) T) : Chain P ops w0 Q (.free :: Ss) (o :: rest) a F T := by
  have e : opVal P ops o a = c := by unfold opVal; rw [if_pos hw, hr]
  refine ⟨fun w => ?_, by rw [e]; exact k⟩
  rw [if_pos hw, e]
  unfold Oper.wp
  rw [hr]
  exact ⟨put_defers _ _ _, rfl, c, rfl, rfl⟩
theorem Chain.looseSkip (hw : Region.wanted o (yielded ops a.tmps) = false)
    (k : ∀ g, Chain P ops w0 Q Ss rest (a.put o.dst undef) ((o.dst, undef, g, .val undef) :: F) T) : Chain P ops w0 Q (.free :: Ss) (o :: rest) a F T := by
  have e : opVal P ops o a = undef := by unfold opVal; rw [hw]; rfl
  refine ⟨fun w => ?_, by rw [e]; exact k⟩
  rw [hw, e]; rfl
end

def fr (a0 : Act) (d : Nat → Option Tmp) (L : Nat → Bool) (vals : Nat → Value) : Nat → Act
  | 0 => a0
  | k + 1 => if L k then (fr a0 d L vals k).put (d k) (vals k) else fr a0 d L vals k
section
variable {a0 : Act} {d : Nat → Option Tmp} {L : Nat → Bool} {vals : Nat → Value}
theorem fr_size (k : Nat) : (fr a0 d L vals k).tmps.size = a0.tmps.size := by
  induction k with
  | zero => rfl
  | succ k ih => unfold fr; split <;> simp [put_size, ih]
theorem fr_defers (k : Nat) : (fr a0 d L vals k).defers = a0.defers := by
  induction k with
  | zero => rfl
  | succ k ih => unfold fr; split <;> simp [put_defers, ih]
theorem fr_miss {t : Nat} (k : Nat) (h : ∀ j, j < k → d j = some t → L j = false) : (fr a0 d L vals k).tmps[t]? = a0.tmps[t]? := by
  induction k with
  | zero => rfl
  | succ k ih =>
    have ih := ih fun j hj => h j (by omega)
    unfold fr; split
    · rename_i hL
      rw [put_get, if_neg (fun e => by rw [h k (by omega) e] at hL; exact absurd hL (by simp)), ih]
    · exact ih
theorem fr_hit {t j : Nat} (k : Nat) (hj : j < k) (hL : L j = true) (hd : d j = some t) (hu : ∀ i, i < k → d i = some t → i = j) :
    (fr a0 d L vals k).tmps[t]? = if t < a0.tmps.size then some (vals j) else none := by
  induction k with
  | zero => omega
  | succ k ih =>
    by_cases e : j = k
    · subst e; unfold fr; rw [if_pos hL, put_get, if_pos hd, fr_size]
    · have ih := ih (by omega) fun i hi => hu i (by omega)
      unfold fr; split
      · rw [put_get, if_neg (fun e' => e (hu k (by omega) e').symm), ih]
      · exact ih
end
theorem act_ext {a b : Act} (h : ∀ t : Nat, a.tmps[t]? = b.tmps[t]?) (hd : a.defers = b.defers) : a = b := by
  obtain ⟨x, y⟩ := a; obtain ⟨x', y'⟩ := b
  simp only at h hd
  have : x = x' := Array.ext_getElem? h
  rw [this, hd]
def upd {α : Type} (f : Nat → α) (i : Nat) (v : α) : Nat → α := fun j => if j = i then v else f j
theorem fr_upd {a0 : Act} {d : Nat → Option Tmp} {L : Nat → Bool} {vals : Nat → Value} {k i : Nat} {v : Value} (hi : i < k) (hL : L i = false)
    (hu : ∀ t j j', j < k → j' < k → d j = some t → d j' = some t → j = j') :
    fr a0 d (upd L i true) (upd vals i v) k = (fr a0 d L vals k).put (d i) v := by
  apply act_ext
  · intro t
    rw [put_get]
    by_cases hd : d i = some t
    · rw [if_pos hd, fr_hit k hi (by simp [upd]) hd fun j hj h => hu t j i hj hi h hd, fr_size]; simp [upd]
    · rw [if_neg hd]
      by_cases hm : ∃ j, j < k ∧ L j = true ∧ d j = some t
      · obtain ⟨j, hj, hl, hdj⟩ := hm
        have hne : j ≠ i := fun e => hd (e ▸ hdj)
        rw [fr_hit k hj (by simp [upd, hne, hl]) hdj fun j' hj' h => hu t j' j hj' hj h hdj, fr_hit k hj hl hdj fun j' hj' h => hu t j' j hj' hj h hdj]
        simp [upd, hne]
      · rw [fr_miss k (fun j hj h => ?_), fr_miss k (fun j hj h => ?_)]
        · cases hl : L j
          · rfl
          · exact absurd ⟨j, hj, hl, h⟩ hm
        · have hne : j ≠ i := fun e => hd (e ▸ h)
          simp only [upd, hne, if_false]
          cases hl : L j
          · rfl
          · exact absurd ⟨j, hj, hl, h⟩ hm
  · rw [fr_defers, put_defers, fr_defers]

/-! what an operation does hangs on the slots that it looks at -/
theorem eval_eq {a b : Act} {x : Operand} (h : ∀ t, x = .tmp t → a.tmps[t]? = b.tmps[t]?) : a.eval x = b.eval x := by
  cases x with
  | tmp t => have := h t rfl; simp only [Act.eval, Array.getD_eq_getD_getElem?, this]
  | const v => rfl
  | global g => rfl
  | func f => rfl
theorem exec_eq {ops : Array Oper} {o : Oper} {a b : Act} (hs : ∀ cs c, o.op ≠ .select cs c) (h : ∀ t, t ∈ o.looksAt ops → a.tmps[t]? = b.tmps[t]?) : execOp a.eval o = execOp b.eval o :=
  execOp_congr o hs fun x hx => eval_eq fun t e => h t (by
    subst e; exact List.mem_append_left _ (List.mem_filterMap.2 ⟨.tmp t, by simpa using hx, rfl⟩))
theorem wanted_eq {ops : Array Oper} {o : Oper} {a b : Act} (h : ∀ t, t ∈ o.looksAt ops → a.tmps[t]? = b.tmps[t]?) : Region.wanted o (yielded ops a.tmps) = Region.wanted o (yielded ops b.tmps) := by
  unfold Region.wanted
  cases hg : o.guard with
  | none => rfl
  | some gw =>
    obtain ⟨g, want⟩ := gw
    have hy : yielded ops a.tmps g = yielded ops b.tmps g := by
      unfold yielded
      cases ht : (ops[g]?).bind (·.dst) with
      | none => rfl
      | some t => simp only [Option.bind_some]; rw [h t (by simp [Oper.looksAt, hg, ht])]
    simp only [hy]
theorem opVal_eq {P : Program} {ops : Array Oper} {o : Oper} {a b : Act} (hs : ∀ cs c, o.op ≠ .select cs c) (h : ∀ t, t ∈ o.looksAt ops → a.tmps[t]? = b.tmps[t]?) : opVal P ops o a = opVal P ops o b := by
  unfold opVal
  rw [wanted_eq h, exec_eq hs h]
theorem upon_turn {P : Program} {o : Oper} {a b : Act} {G K : Act → World → Prop} {Q : Exit → Act → World → Prop} {r : Result Next} (h : o.upon P a (fun a' w' => a'.defers = a.defers ∧ G a' w') (fun _ _ _ => False) r)
    (hk : ∀ v w', G (a.put o.dst v) w' → K (b.put o.dst v) w') : o.upon P b K Q r := by
  cases r with
  | halt h' w' => cases h' <;> first | exact h.elim | exact h
  | ok n w' =>
    match n, h with
    | .value v, h => exact hk _ _ h.2
    | .skip, h => exact hk _ _ h.2
    | .defer x, h => exact absurd h.1 (by rw [put_defers]; intro e; exact absurd (congrArg List.length e) (by simp))
    | .enter f args, h =>
      refine Calls.mono h ?_
      intro e w'' he
      cases e with
      | returned v => exact hk _ _ he.2
      | panicked c => exact he.elim
      | outgrown => obtain ⟨_, _, hf⟩ := he; exact hf.elim
    | .row r' args, h => exact Rows.mono h fun v w'' hv => hk _ _ hv.2

/-! the look at the region: a text that the kernel reckons -/
def directs (o : Oper) : List Nat := (o.after.toList.filter (Region.binds .any ·)).map (·.on)
/-- All that stand ahead of each operation (a guess; 'chk' asks what is wanted of it). -/
def ancs (ops : List Oper) : List (List Nat) :=
  ops.foldl (fun acc o => acc ++ [((directs o).flatMap fun j => j :: acc.getD j []).eraseDups]) []
/-- 'K': the operations' kinds: 0 head, 1 free, 2 tail. -/
def chk (ops : List Oper) (K : List Nat) : Bool :=
  let A := ancs ops
  let n := ops.length
  let D := ops.map (·.dst)
  let Ar := ops.toArray
  let kd := fun j => K.getD j 2
  K.length == n && (K.all (· < 3)) &&
  ((List.range n).all fun i => match ops[i]? with
    | none => true
    | some o =>
      (directs o).all (· < i) &&
      ((A.getD i []).all fun j => (directs o).contains j || (directs o).any fun m => m < i && (A.getD m []).contains j) &&
      (match o.op with | .select _ _ => false | _ => true) &&
      (if kd i == 2 then
        ((List.range n).all fun j => j == i || (if kd j == 0 then (A.getD i []).contains j else if kd j == 2 then !(j < i) || (A.getD i []).contains j else
          match D.getD j none with
          | none => true
          | some t => !(o.looksAt Ar).contains t || (j < i && (A.getD i []).contains j)))
       else
        ((A.getD i []).all fun j => kd j != 2) &&
        (match D.getD i none with | none => true | some t => !(o.looksAt Ar).contains t) &&
        ((List.range n).all fun j => j == i || match D.getD j none with
          | none => true
          | some t => D.getD i none != some t && (!(o.looksAt Ar).contains t || (if kd j == 2 then (A.getD j []).contains i else j < i && (A.getD i []).contains j)))))
/-- What the look at the region gives. -/
structure Fine (ops : List Oper) (K : List Nat) : Prop where
  len : K.length = ops.length
  three : ∀ i, K.getD i 2 < 3
  back : ∀ (i : Nat) (o : Oper), ops[i]? = some o → ∀ j ∈ directs o, j < i
  anc : ∀ (i : Nat) (o : Oper), ops[i]? = some o → ∀ j ∈ (ancs ops).getD i [], j ∈ directs o ∨ ∃ m ∈ directs o, m < i ∧ j ∈ (ancs ops).getD m []
  sel : ∀ (i : Nat) (o : Oper), ops[i]? = some o → ∀ cs c, o.op ≠ .select cs c
  nt : ∀ (i : Nat) (o : Oper), ops[i]? = some o → K.getD i 2 ≠ 2 → ∀ j ∈ (ancs ops).getD i [], K.getD j 2 ≠ 2
  self : ∀ (i : Nat) (o : Oper) t, ops[i]? = some o → K.getD i 2 ≠ 2 → o.dst = some t → t ∉ o.looksAt ops.toArray
  dist : ∀ (i j : Nat) (o o' : Oper) t, ops[i]? = some o → ops[j]? = some o' → K.getD i 2 ≠ 2 → o.dst = some t → o'.dst = some t → i = j
  lookT : ∀ (i j : Nat) (o o' : Oper) t, ops[i]? = some o → ops[j]? = some o' → K.getD i 2 ≠ 2 → K.getD j 2 = 2 → o'.dst = some t → t ∈ o.looksAt ops.toArray → i ∈ (ancs ops).getD j []
  lookN : ∀ (i j : Nat) (o o' : Oper) t, ops[i]? = some o → ops[j]? = some o' → K.getD i 2 ≠ 2 → K.getD j 2 ≠ 2 → o'.dst = some t → t ∈ o.looksAt ops.toArray → j < i ∧ j ∈ (ancs ops).getD i []
  tHead : ∀ (i j : Nat) (o : Oper), ops[i]? = some o → j < ops.length → K.getD i 2 = 2 → K.getD j 2 = 0 → j ∈ (ancs ops).getD i []
  tTail : ∀ (i j : Nat) (o : Oper), ops[i]? = some o → K.getD i 2 = 2 → K.getD j 2 = 2 → j < i → j ∈ (ancs ops).getD i []
  tFree : ∀ (i j : Nat) (o o' : Oper) t, ops[i]? = some o → ops[j]? = some o' → K.getD i 2 = 2 → K.getD j 2 = 1 → o'.dst = some t → t ∈ o.looksAt ops.toArray → j ∈ (ancs ops).getD i []
theorem fine_of_chk {ops : List Oper} {K : List Nat} (h : chk ops K = true) : Fine ops K := by
  unfold chk at h
  simp only [Bool.and_eq_true, decide_eq_true_eq, List.all_eq_true, List.mem_range, beq_iff_eq] at h
  obtain ⟨⟨hk, h3⟩, h⟩ := h
  have H : ∀ (i : Nat) (o : Oper), ops[i]? = some o → _ := fun i o ho => by
    have hi : i < ops.length := (List.getElem?_eq_some_iff.1 ho).1
    have := h i hi
    rw [ho] at this
    exact this
  have dstD : ∀ (j : Nat) (o' : Oper), ops[j]? = some o' → (ops.map (·.dst)).getD j none = o'.dst := fun j o' ho => by
    simp [List.getD_eq_getElem?_getD, List.getElem?_map, ho]
  simp only [Bool.and_eq_true, List.all_eq_true, decide_eq_true_eq, Bool.or_eq_true, List.contains_iff_mem, List.any_eq_true] at H
  have HT : ∀ (i : Nat) (o : Oper), ops[i]? = some o → K.getD i 2 = 2 → _ := fun i o ho hi => by
    have := (H i o ho).2
    rw [if_pos hi] at this
    exact this
  have HN : ∀ (i : Nat) (o : Oper), ops[i]? = some o → K.getD i 2 ≠ 2 → _ := fun i o ho hi => by
    have := (H i o ho).2
    rw [if_neg hi] at this
    exact this
  simp only [Bool.and_eq_true, List.all_eq_true, List.mem_range, Bool.or_eq_true, beq_iff_eq, bne_iff_ne] at HT HN
  have lt_of : ∀ (j : Nat) (o : Oper), ops[j]? = some o → j < ops.length := fun j o ho => (List.getElem?_eq_some_iff.1 ho).1
  refine ⟨hk, fun i => ?_, fun i o ho => (H i o ho).1.1.1, fun i o ho j hj => ?_, fun i o ho cs c e => ?_, fun i o ho hi => (HN i o ho hi).1.1, fun i o t ho hi hd ht => ?_, fun i j o o' t ho ho' hi hd hd' => ?_, fun i j o o' t ho ho' hi hj hd ht => ?_, fun i j o o' t ho ho' hi hj hd ht => ?_, fun i j o ho hj hi hkj => ?_, fun i j o ho hi hj hlt => ?_, fun i j o o' t ho ho' hi hj hd ht => ?_⟩
  · by_cases hi : i < K.length
    · rw [List.getD_eq_getElem?_getD, List.getElem?_eq_getElem hi]; exact h3 _ (List.getElem_mem hi)
    · rw [List.getD_eq_getElem?_getD, List.getElem?_eq_none (by omega)]; simp
  · rcases (H i o ho).1.1.2 j hj with h1 | ⟨m, hm, h2, h3⟩
    · exact .inl h1
    · exact .inr ⟨m, hm, h2, h3⟩
  · have := (H i o ho).1.2
    simp [e] at this
  · have := (HN i o ho hi).1.2
    rw [dstD i o ho, hd] at this
    simp [ht] at this
  · have := (HN i o ho hi).2 j (lt_of j o' ho')
    rw [dstD j o' ho', hd', dstD i o ho, hd] at this
    by_cases e : j = i
    · exact e.symm
    · simp [e] at this
  · have := (HN i o ho hi).2 j (lt_of j o' ho')
    have e : j ≠ i := fun e => hi (e ▸ hj)
    rw [dstD j o' ho', hd] at this
    simp only [e, false_or, Bool.and_eq_true, Bool.or_eq_true, Bool.not_eq_true'] at this
    have := this.2
    have c : (o.looksAt ops.toArray).contains t = true := by simpa using ht
    rw [c, if_pos hj] at this
    simpa using this
  · have := (HN i o ho hi).2 j (lt_of j o' ho')
    by_cases e : j = i
    · subst e
      have : o = o' := by rw [ho] at ho'; exact Option.some.inj ho'
      subst this
      have := (HN j o ho hi).1.2
      rw [dstD j o ho, hd] at this
      simp [ht] at this
    rw [dstD j o' ho', hd] at this
    simp only [e, false_or, Bool.and_eq_true, Bool.or_eq_true, Bool.not_eq_true'] at this
    have := this.2
    have c : (o.looksAt ops.toArray).contains t = true := by simpa using ht
    rw [c, if_neg hj] at this
    simpa using this
  · have := HT i o ho hi j hj
    have e : j ≠ i := fun e => by rw [e, hi] at hkj; exact absurd hkj (by simp)
    rw [if_pos hkj] at this
    simpa [e] using this
  · have := HT i o ho hi j (by have := lt_of i o ho; omega)
    rw [if_neg (by rw [hj]; simp), if_pos hj] at this
    have e : j ≠ i := by omega
    simpa [e, hlt] using this
  · have := HT i o ho hi j (lt_of j o' ho')
    have e : j ≠ i := fun e => by rw [e, hi] at hj; exact absurd hj (by simp)
    rw [if_neg (by rw [hj]; simp), if_neg (by rw [hj]; simp), dstD j o' ho', hd] at this
    have c : (o.looksAt ops.toArray).contains t = true := by simpa using ht
    simp only [e, c, false_or, Bool.or_eq_true, Bool.not_eq_true', Bool.true_eq_false, Bool.and_eq_true] at this
    have := this.2
    simpa using this

/-- The operations of the tail. -/
def tlOf : List Cls → List Oper → List Oper
  | c :: C, o :: rest => if c.kind = 2 then o :: tlOf C rest else tlOf C rest
  | _, _ => []
def ntOf (C : List Cls) (j : Nat) : Bool := match C[j]? with
  | some c => c.kind != 2
  | none => false
section
variable {P : Program} {ops : Array Oper} {w0 : World} {Q : Exit → Act → World → Prop}
/-- Values that fit: of a head by its specification, of a free one as reckoned. -/
def Cons (P : Program) (ops : Array Oper) (C : List Cls) (rest : List Oper) (a : Act) (vals : Nat → Value) : Prop :=
  ∀ (i : Nat) (c : Cls) (o : Oper), C[i]? = some c → rest[i]? = some o → match c with
    | .head S => S.pure (vals i)
    | .free => vals i = opVal P ops o (fr a (fun j => (rest[j]?).bind (·.dst)) (ntOf C) vals i)
    | .tail => True
def Cls.specOf (c : Cls) (v : Value) : Spec := match c with
  | .head S => S
  | _ => .val v
/-- The chain, opened at values that fit: each step, and the end. -/
theorem Chain.steps : ∀ (C : List Cls) (rest : List Oper) (a : Act) (F : Given) (T : List Oper), Chain P ops w0 Q C rest a F T → ∀ (vals : Nat → Value) (gh : Nat → Nat × Nat), Cons P ops C rest a vals →
    (∀ i (c : Cls), C[i]? = some c → ∃ o, rest[i]? = some o ∧ (∀ S, c = .head S → S.good ∧ ∃ F' : Given, StepOk P ops w0 o (fr a (fun j => (rest[j]?).bind (·.dst)) (ntOf C) vals i) F' S ∧
      ∀ x ∈ F', x ∈ F ∨ ∃ j, ∃ c' : Cls, j < i ∧ C[j]? = some c' ∧ c'.kind ≠ 2 ∧ x = ((rest[j]?).bind (·.dst), vals j, gh j, c'.specOf (vals j))) ∧
      (c = .free → StepFree P ops o (fr a (fun j => (rest[j]?).bind (·.dst)) (ntOf C) vals i) (vals i))) ∧
    (∃ F' : Given, (∀ w, Below w0.heap.size w0 w → (∀ x ∈ F', x.2.2.2.fact x.2.1 x.2.2.1 w) → Apart w0 w F' → wpList P ops (Calm Q) (T ++ tlOf C rest) (fr a (fun j => (rest[j]?).bind (·.dst)) (ntOf C) vals C.length) w) ∧
      ∀ x ∈ F', x ∈ F ∨ ∃ j, ∃ c' : Cls, C[j]? = some c' ∧ c'.kind ≠ 2 ∧ x = ((rest[j]?).bind (·.dst), vals j, gh j, c'.specOf (vals j))) := by
  intro C
  induction C with
  | nil =>
    intro rest a F T h vals gh hv
    match rest, h with
    | [], h => exact ⟨fun i S hi => by simp at hi, F, by intro w hw hx hap; unfold Chain at h; simpa [tlOf, fr] using h w hw hx hap, fun x hx => .inl hx⟩
    | _ :: _, h => exact h.elim
  | cons c C ih =>
    intro rest a F T h vals gh hv
    match rest, h with
    | [], h => cases c <;> exact h.elim
    | o :: rest, h =>
      -- what every case shares: the frame behind the first operation
      have hput : ∀ (b : Bool), ntOf (c :: C) 0 = b → ∀ k, fr (if b then a.put o.dst (vals 0) else a) (fun j => (rest[j]?).bind (·.dst)) (ntOf C) (fun j => vals (j + 1)) k = fr a (fun j => ((o :: rest)[j]?).bind (·.dst)) (ntOf (c :: C)) vals (k + 1) := by
        intro b hb k
        induction k with
        | zero => simp only [fr, hb]; rfl
        | succ k ihk =>
          rw [fr, ihk]
          conv => rhs; rw [fr]
          have : ntOf (c :: C) (k + 1) = ntOf C k := by simp [ntOf]
          rw [this]; rfl
      have hv' : ∀ (b : Bool), ntOf (c :: C) 0 = b → Cons P ops C rest (if b then a.put o.dst (vals 0) else a) (fun j => vals (j + 1)) := by
        intro b hb i c' o' hi ho'
        have := hv (i + 1) c' o' (by simpa using hi) (by simpa using ho')
        rw [hput b hb]
        exact this
      have main : ∀ (a1 : Act) (F1 : Given) (T1 : List Oper) (b : Bool), ntOf (c :: C) 0 = b → a1 = (if b then a.put o.dst (vals 0) else a) → T1 ++ tlOf C rest = T ++ tlOf (c :: C) (o :: rest) →
          (∀ x ∈ F1, x ∈ F ∨ (c.kind ≠ 2 ∧ x = (o.dst, vals 0, gh 0, c.specOf (vals 0)))) → Chain P ops w0 Q C rest a1 F1 T1 →
          (∀ S, c = .head S → S.good ∧ StepOk P ops w0 o a F S) → (c = .free → StepFree P ops o a (vals 0)) →
          (∀ i (c' : Cls), (c :: C)[i]? = some c' → ∃ o', (o :: rest)[i]? = some o' ∧ (∀ S, c' = .head S → S.good ∧ ∃ F' : Given, StepOk P ops w0 o' (fr a (fun j => ((o :: rest)[j]?).bind (·.dst)) (ntOf (c :: C)) vals i) F' S ∧
            ∀ x ∈ F', x ∈ F ∨ ∃ j, ∃ c'' : Cls, j < i ∧ (c :: C)[j]? = some c'' ∧ c''.kind ≠ 2 ∧ x = (((o :: rest)[j]?).bind (·.dst), vals j, gh j, c''.specOf (vals j))) ∧
            (c' = .free → StepFree P ops o' (fr a (fun j => ((o :: rest)[j]?).bind (·.dst)) (ntOf (c :: C)) vals i) (vals i))) ∧
          (∃ F' : Given, (∀ w, Below w0.heap.size w0 w → (∀ x ∈ F', x.2.2.2.fact x.2.1 x.2.2.1 w) → Apart w0 w F' → wpList P ops (Calm Q) (T ++ tlOf (c :: C) (o :: rest)) (fr a (fun j => ((o :: rest)[j]?).bind (·.dst)) (ntOf (c :: C)) vals (c :: C).length) w) ∧
            ∀ x ∈ F', x ∈ F ∨ ∃ j, ∃ c' : Cls, (c :: C)[j]? = some c' ∧ c'.kind ≠ 2 ∧ x = (((o :: rest)[j]?).bind (·.dst), vals j, gh j, c'.specOf (vals j))) := by
        intro a1 F1 T1 b hb ha1 hT hF1 hch hs hf
        subst ha1
        obtain ⟨h1, F2, h2, h3⟩ := ih rest _ F1 T1 hch (fun j => vals (j + 1)) (fun j => gh (j + 1)) (hv' b hb)
        have lift : ∀ x, (x ∈ F1 ∨ ∃ j, ∃ c' : Cls, C[j]? = some c' ∧ c'.kind ≠ 2 ∧ x = ((rest[j]?).bind (·.dst), vals (j + 1), gh (j + 1), c'.specOf (vals (j + 1)))) →
            x ∈ F ∨ ∃ j, ∃ c' : Cls, (c :: C)[j]? = some c' ∧ c'.kind ≠ 2 ∧ x = (((o :: rest)[j]?).bind (·.dst), vals j, gh j, c'.specOf (vals j)) := by
          rintro x (hx | ⟨j, c', hj, hk, rfl⟩)
          · rcases hF1 x hx with hx | ⟨hk, rfl⟩
            · exact .inl hx
            · exact .inr ⟨0, c, rfl, hk, rfl⟩
          · exact .inr ⟨j + 1, c', by simpa using hj, hk, rfl⟩
        refine ⟨fun i c' hi => ?_, F2, fun w hw hx hap => ?_, fun x hx => lift x (h3 x hx)⟩
        · cases i with
          | zero =>
            simp at hi; subst hi
            refine ⟨o, rfl, fun S hS => ⟨(hs S hS).1, F, by simpa [fr] using (hs S hS).2, fun x hx => .inl hx⟩, fun hv => by simpa [fr] using hf hv⟩
          | succ i =>
            obtain ⟨o', ho', hg1, hg2⟩ := h1 i c' (by simpa using hi)
            refine ⟨o', by simpa using ho', fun S hS => ?_, fun hv => by rw [← hput b hb]; exact hg2 hv⟩
            obtain ⟨hg, F', hst, hF'⟩ := hg1 S hS
            refine ⟨hg, F', by rw [← hput b hb]; exact hst, fun x hx => ?_⟩
            rcases hF' x hx with hx | ⟨j, c'', hlt, hj, hk, rfl⟩
            · rcases hF1 x hx with hx | ⟨hk, rfl⟩
              · exact .inl hx
              · exact .inr ⟨0, c, by omega, rfl, hk, rfl⟩
            · exact .inr ⟨j + 1, c'', by omega, by simpa using hj, hk, rfl⟩
        · have := h2 w hw hx hap
          rw [hput b hb, hT] at this
          exact this
      cases c with
      | head S =>
        obtain ⟨hg, hs, hk⟩ := h
        have hv0 : S.pure (vals 0) := hv 0 (.head S) o rfl rfl
        exact main _ _ T true rfl rfl (by simp [tlOf, Cls.kind]) (fun x hx => by
          rcases List.mem_cons.1 hx with rfl | hx
          · exact .inr ⟨by simp [Cls.kind], rfl⟩
          · exact .inl hx) (hk _ (gh 0) hv0) (fun S' hS' => by cases hS'; exact ⟨hg, hs⟩) (fun hv => by cases hv)
      | free =>
        obtain ⟨hs, hk⟩ := h
        have hv0 : vals 0 = opVal P ops o a := hv 0 .free o rfl rfl
        rw [← hv0] at hs hk
        refine main _ _ T true rfl rfl (by simp [tlOf, Cls.kind]) (fun x hx => ?_) (hk (gh 0)) (fun S' hS' => by cases hS') (fun _ => hs)
        rcases List.mem_cons.1 hx with rfl | hx
        · exact .inr ⟨by simp [Cls.kind], rfl⟩
        · exact .inl hx
      | tail =>
        exact main a F (T ++ [o]) false rfl rfl (by simp [tlOf, Cls.kind]) (fun x hx => .inl hx) h (fun S' hS' => by cases hS') (fun hv => by cases hv)
theorem Chain.len : ∀ (C : List Cls) (rest : List Oper) (a : Act) (F : Given) (T : List Oper), Chain P ops w0 Q C rest a F T → (∀ S, .head S ∈ C → S.good)
  | [], _, _, _, _, _, c, h => by simp at h
  | .head S :: C, [], _, _, _, h, _, _ => h.elim
  | .free :: C, [], _, _, _, h, _, _ => h.elim
  | .tail :: C, [], _, _, _, h, _, _ => h.elim
  | .head S :: C, o :: rest, a, F, T, h, S', hc => by
    obtain ⟨hg, _, hk⟩ := h
    obtain ⟨v, hv⟩ := hg.1
    rcases List.mem_cons.1 hc with e | hc
    · cases e; exact hg
    · exact Chain.len C rest _ _ _ (hk v (0, 0) hv) S' hc
  | .free :: C, o :: rest, a, F, T, h, S', hc => by
    rcases List.mem_cons.1 hc with e | hc
    · cases e
    · exact Chain.len C rest _ _ _ (h.2 (0, 0)) S' hc
  | .tail :: C, o :: rest, a, F, T, h, S', hc => by
    rcases List.mem_cons.1 hc with e | hc
    · cases e
    · exact Chain.len C rest _ _ _ h S' hc
end

theorem specOf_fact {c : Cls} (hk : c.kind ≠ 2) {v : Value} : (c.specOf v).fact = c.spec.fact := by
  cases c with
  | head S => rfl
  | free => rfl
  | tail => exact absurd rfl hk
theorem specOf_own {c : Cls} (hk : c.kind ≠ 2) {v : Value} : (c.specOf v).own = c.spec.own := by
  cases c with
  | head S => rfl
  | free => rfl
  | tail => exact absurd rfl hk
theorem fr_congr {a0 : Act} {d : Nat → Option Tmp} {L : Nat → Bool} {vals vals' : Nat → Value} (k : Nat) (h : ∀ j, j < k → L j = true → vals j = vals' j) : fr a0 d L vals k = fr a0 d L vals' k := by
  induction k with
  | zero => rfl
  | succ k ih =>
    have ih := ih fun j hj => h j (by omega)
    unfold fr
    rw [ih]
    split
    · rename_i hL; rw [h k (by omega) hL]
    · rfl
/-- Values with the free ones reckoned, but those that are kept. -/
def comp (P : Program) (opl : List Oper) (C : List Cls) (a0 : Act) (keep : Nat → Bool) (base : Nat → Value) : Nat → Nat → Value
  | 0 => base
  | k + 1 => if keep k then comp P opl C a0 keep base k else upd (comp P opl C a0 keep base k) k (match opl[k]? with
    | some o => opVal P opl.toArray o (fr a0 (fun j => (opl[j]?).bind (·.dst)) (ntOf C) (comp P opl C a0 keep base k) k)
    | none => undef)
section
variable {P : Program} {opl : List Oper} {C : List Cls} {a0 : Act} {keep : Nat → Bool} {base : Nat → Value}
theorem comp_keep {j : Nat} (hj : keep j = true) (n : Nat) : comp P opl C a0 keep base n j = base j := by
  induction n with
  | zero => rfl
  | succ n ih =>
    unfold comp
    split
    · exact ih
    · rename_i hn
      unfold upd
      rw [if_neg (fun (e : j = n) => hn (by rw [← e]; exact hj)), ih]
theorem comp_low {j m n : Nat} (hj : j < m) (hn : m ≤ n) : comp P opl C a0 keep base n j = comp P opl C a0 keep base m j := by
  induction n with
  | zero => omega
  | succ n ih =>
    by_cases e : m = n + 1
    · rw [e]
    · rw [comp]
      split
      · exact ih (by omega)
      · unfold upd; rw [if_neg (by omega)]; exact ih (by omega)
theorem comp_cons (hh : ∀ (i : Nat) (S : Spec), C[i]? = some (.head S) → keep i = true ∧ S.pure (base i))
    (hfr : ∀ (i : Nat) (o : Oper), C[i]? = some .free → opl[i]? = some o → keep i = true → base i = opVal P opl.toArray o (fr a0 (fun j => (opl[j]?).bind (·.dst)) (ntOf C) (comp P opl C a0 keep base opl.length) i)) :
    Cons P opl.toArray C opl a0 (comp P opl C a0 keep base opl.length) := by
  intro i c o hc ho
  have hi : i < opl.length := (List.getElem?_eq_some_iff.1 ho).1
  cases c with
  | head S => obtain ⟨h1, h2⟩ := hh i S hc; show S.pure _; rw [comp_keep h1]; exact h2
  | tail => trivial
  | free =>
    show comp P opl C a0 keep base opl.length i = _
    by_cases hk : keep i = true
    · rw [comp_keep hk]; exact hfr i o hc ho hk
    · rw [comp_low (Nat.lt_succ_self i) hi, comp, if_neg hk, ho]
      unfold upd
      rw [if_pos rfl]
      rw [fr_congr (vals := comp P opl C a0 keep base i) (vals' := comp P opl C a0 keep base opl.length) i (fun j hj _ => (comp_low hj (Nat.le_of_lt hi)).symm)]
end

theorem anc_listed {ops : List Oper} {k : List Nat} (hf : Fine ops k) {L : Nat → Bool} (hd : ∀ (i : Nat) (o : Oper), ops[i]? = some o → L i = true → ∀ j ∈ directs o, L j = true) :
    ∀ (i : Nat) (o : Oper), ops[i]? = some o → (∀ j ∈ directs o, L j = true) → ∀ j ∈ (ancs ops).getD i [], L j = true := by
  intro i
  induction i using Nat.strongRecOn with
  | _ i ih =>
    intro o ho hl j hj
    rcases hf.anc i o ho j hj with h | ⟨m, hm, hlt, hjm⟩
    · exact hl j h
    · have hmn : m < ops.length := Nat.lt_trans hlt (List.getElem?_eq_some_iff.1 ho).1
      exact ih m hlt ops[m] (List.getElem?_eq_getElem hmn) (hd m _ (List.getElem?_eq_getElem hmn) (hl m hm)) j hjm

theorem cnt_upd (p q : Nat → Bool) (i : Nat) (hp : p i = true) (hq : q i = false) (h : ∀ j, j ≠ i → p j = q j) : ∀ n, i < n → (List.range n).countP p = (List.range n).countP q + 1 := by
  have same : ∀ n, n ≤ i → (List.range n).countP p = (List.range n).countP q := by
    intro n hn
    exact List.countP_congr fun j hj => by rw [h j (by have := List.mem_range.1 hj; omega)]
  intro n hn
  induction n with
  | zero => omega
  | succ n ih =>
    rw [List.range_succ, List.countP_append, List.countP_append]
    by_cases e : i = n
    · subst e; rw [same i (Nat.le_refl _)]; simp [hp, hq]
    · rw [ih (by omega), List.countP_singleton, List.countP_singleton, h n (fun e' => e e'.symm)]; omega

theorem listed_get {listed : Array Bool} {n j : Nat} (hs : listed.size = n) (hj : j < n) (b : Bool) : listed.getD j b = listed.getD j false := by
  simp [Array.getD, hs, hj]
theorem set_get {listed : Array Bool} {n i : Nat} (hs : listed.size = n) (hi : i < n) (j : Nat) : (listed.setIfInBounds i true).getD j false = upd (fun j => listed.getD j false) i true j := by
  unfold upd
  by_cases h : j = i
  · subst h; simp [Array.getD_eq_getD_getElem?, hs, hi]
  · simp [Array.getD_eq_getD_getElem?, h, Ne.symm h]

theorem ready_ex {opl : List Oper} {K : List Nat} (hf : Fine opl K) {listed : Array Bool} (hs : listed.size = opl.length) {i0 : Nat} (h0 : i0 < opl.length) (hl0 : listed.getD i0 false = false) : ∃ i, i ∈ Region.ready .any opl.toArray listed := by
  have key : ∀ m, m < opl.length → listed.getD m false = false → ∃ i, i ∈ Region.ready .any opl.toArray listed := by
    intro m
    induction m using Nat.strongRecOn with
    | _ m ihm =>
      intro hmn hlm
      have hom : opl[m]? = some opl[m] := List.getElem?_eq_getElem hmn
      by_cases hd : ∀ j ∈ directs opl[m], listed.getD j false = true
      · exact ⟨m, mem_ready.2 ⟨by rw [listed_get hs hmn, hlm], opl[m], by simp, fun e he hbb => hd e.on (by unfold directs; exact List.mem_map.2 ⟨e, List.mem_filter.2 ⟨by simpa using he, hbb⟩, rfl⟩)⟩⟩
      · have : ∃ j, j ∈ directs opl[m] ∧ listed.getD j false = false := by
          refine Classical.byContradiction fun hno => hd fun j hj => ?_
          cases e : listed.getD j false
          · exact absurd ⟨j, hj, e⟩ hno
          · rfl
        obtain ⟨j, hj, hlj⟩ := this
        have hlt := hf.back m _ hom j hj
        exact ihm j hlt (by omega) hlj
  exact key i0 h0 hl0
theorem ready_none {opl : List Oper} {listed : Array Bool} (hs : listed.size = opl.length) (hall : ∀ j, j < opl.length → listed.getD j false = true) : Region.ready .any opl.toArray listed = [] := by
  rw [List.eq_nil_iff_forall_not_mem]
  intro j hj
  obtain ⟨h0, o, ho, _⟩ := mem_ready.1 hj
  have hj' : j < opl.length := by simpa using (Array.getElem?_eq_some_iff.1 ho).1
  rw [listed_get hs hj', hall j hj'] at h0
  simp at h0

section
variable {K : List Nat} {C : List Cls} {opl : List Oper}
def tlFrom (C : List Cls) (opl : List Oper) (m : Nat) : List Oper := tlOf (C.drop m) (opl.drop m)
theorem kind_at (hCK : C.map Cls.kind = K) {j : Nat} {c : Cls} (h : C[j]? = some c) : K.getD j 2 = c.kind := by
  subst hCK; simp [List.getD_eq_getElem?_getD, List.getElem?_map, h]
theorem nt_at (hCK : C.map Cls.kind = K) (j : Nat) : ntOf C j = (K.getD j 2 != 2) := by
  subst hCK
  unfold ntOf
  cases h : C[j]? <;> simp [List.getD_eq_getElem?_getD, List.getElem?_map, h]
theorem tl_cons (hl : C.length = opl.length) {m : Nat} (hm : m < opl.length) {o : Oper} (ho : opl[m]? = some o) {c : Cls} (hc : C[m]? = some c) :
    tlFrom C opl m = if c.kind = 2 then o :: tlFrom C opl (m + 1) else tlFrom C opl (m + 1) := by
  unfold tlFrom
  have h1 : opl.drop m = o :: opl.drop (m + 1) := by
    rw [List.drop_eq_getElem_cons hm]
    have : opl[m] = o := by have := List.getElem?_eq_getElem hm; rw [ho] at this; exact (Option.some.inj this).symm
    rw [this]
  have h2 : C.drop m = c :: C.drop (m + 1) := by
    have hm' : m < C.length := by omega
    rw [List.drop_eq_getElem_cons hm']
    have : C[m] = c := by have := List.getElem?_eq_getElem hm'; rw [hc] at this; exact (Option.some.inj this).symm
    rw [this]
  rw [h1, h2, tlOf]
theorem tl_to (hl : C.length = opl.length) (hCK : C.map Cls.kind = K) {i : Nat} (hi : i ≤ opl.length) : ∀ (k m : Nat), m + k = i → (∀ j, m ≤ j → j < i → K.getD j 2 ≠ 2) → tlFrom C opl m = tlFrom C opl i := by
  intro k
  induction k with
  | zero => intro m h _; have : m = i := by omega
            rw [this]
  | succ k ih =>
    intro m h hk
    have hm : m < opl.length := by omega
    have hm' : m < C.length := by omega
    rw [tl_cons hl hm (List.getElem?_eq_getElem hm) (List.getElem?_eq_getElem hm'), if_neg, ih (m + 1) (by omega) (fun j h1 h2 => hk j (by omega) h2)]
    have := hk m (by omega) (by omega)
    rwa [kind_at hCK (List.getElem?_eq_getElem hm')] at this
theorem tl_end : tlFrom C opl opl.length = [] := by
  unfold tlFrom; rw [List.drop_length]; cases C.drop opl.length <;> rfl
end
/-- A step of the tail, taken over to a frame that agrees where it looks. -/
theorem upon_over {P : Program} {o : Oper} {a b : Act} {G K : Act → World → Prop} {Q Q' : Exit → Act → World → Prop} {r : Result Next} (hd : a.defers = b.defers) (h : o.upon P a G (Calm Q) r)
    (hk : ∀ D v w', G ({ a with defers := D }.put o.dst v) w' → K ({ b with defers := D }.put o.dst v) w') : o.upon P b K Q' r := by
  have ea : { a with defers := a.defers } = a := rfl
  have eb : { b with defers := a.defers } = b := by rw [hd]
  cases r with
  | halt h' w' => cases h' <;> first | exact h.elim | exact absurd h.1 (by simp)
  | ok n w' =>
    match n, h with
    | .value v, h => have := hk a.defers v w' h; rw [eb] at this; exact this
    | .skip, h => have := hk a.defers undef w' h; rw [eb] at this; exact this
    | .defer x, h => have := hk (x :: a.defers) undef w' h; rw [hd] at this; exact this
    | .enter f args, h =>
      refine Calls.mono h ?_
      intro e w'' he
      cases e with
      | returned v => have := hk a.defers v w'' he; rw [eb] at this; exact this
      | panicked c => exact absurd he.1 (by simp)
      | outgrown => obtain ⟨_, _, hf⟩ := he; exact absurd hf.1 (by simp)
    | .row r' args, h => exact Rows.mono h fun v w'' hv => by have := hk a.defers v w'' hv; rw [eb] at this; exact this
theorem asks_calm {Q : Exit → Act → World → Prop} (h : LetsOut (Calm Q)) : False := by
  obtain ⟨_, _, h⟩ := h; exact absurd h.1 (by simp)

section
variable {P : Program} {opl : List Oper} {K : List Nat} {C : List Cls} {Q : Exit → Act → World → Prop} {a0 : Act} {vals : Nat → Value}
theorem wpAny_two (hf : Fine opl K) (hCK : C.map Cls.kind = K)
    (hS : ∀ j o, opl[j]? = some o → K.getD j 2 = 1 → StepFree P opl.toArray o (fr a0 (fun j => (opl[j]?).bind Oper.dst) (ntOf C) vals j) (vals j)) :
    ∀ (f : Nat) (listed : Array Bool) (m : Nat) (a A : Act) (w : World), (List.range opl.length).countP (fun j => !listed.getD j false) ≤ f → listed.size = opl.length →
      (∀ (i : Nat) (o : Oper), opl[i]? = some o → listed.getD i false = true → ∀ j ∈ directs o, listed.getD j false = true) →
      (∀ j, j < opl.length → K.getD j 2 = 0 → listed.getD j false = true) →
      (∀ j, j < opl.length → K.getD j 2 = 2 → listed.getD j false = decide (j < m)) →
      a.tmps.size = A.tmps.size → a.defers = A.defers →
      (∀ t, (∀ j, j < opl.length → listed.getD j false = false → K.getD j 2 = 1 → (opl[j]?).bind Oper.dst ≠ some t) → a.tmps[t]? = A.tmps[t]?) →
      (∀ j, j < opl.length → listed.getD j false = false → K.getD j 2 = 1 → ∀ t, (opl[j]?).bind Oper.dst = some t → A.tmps[t]? = if t < A.tmps.size then some (vals j) else none) →
      (∀ j o, opl[j]? = some o → listed.getD j false = false → K.getD j 2 = 1 → ∀ t ∈ o.looksAt opl.toArray, A.tmps[t]? = (fr a0 (fun j => (opl[j]?).bind Oper.dst) (ntOf C) vals j).tmps[t]?) →
      A.tmps.size = a0.tmps.size →
      m ≤ opl.length →
      wpList P opl.toArray (Calm Q) (tlFrom C opl m) A w → wpAny P .any opl.toArray Q f listed a w := by
  have hl : C.length = opl.length := by rw [← hf.len, ← hCK, List.length_map]
  have done : ∀ (listed : Array Bool) (m : Nat) (a A : Act) (w : World), (∀ j, j < opl.length → listed.getD j false = true) →
      (∀ j, j < opl.length → K.getD j 2 = 2 → listed.getD j false = decide (j < m)) → a.tmps.size = A.tmps.size → a.defers = A.defers →
      (∀ t, (∀ j, j < opl.length → listed.getD j false = false → K.getD j 2 = 1 → (opl[j]?).bind Oper.dst ≠ some t) → a.tmps[t]? = A.tmps[t]?) → m ≤ opl.length →
      wpList P opl.toArray (Calm Q) (tlFrom C opl m) A w → Q .normal a w := by
    intro listed m a A w hall hT hsz hdf hE hm hw
    have e : a = A := act_ext (fun t => hE t fun j hj hlj => by rw [hall j hj] at hlj; exact absurd hlj (by simp)) hdf
    subst e
    rw [tl_to hl hCK (Nat.le_refl _) (opl.length - m) m (by omega) (fun j h1 h2 h3 => by
      have := hT j h2 h3; rw [hall j h2] at this; simp at this; omega), tl_end] at hw
    exact hw.2
  intro f
  induction f with
  | zero =>
    intro listed m a A w hcnt hs hdown hH hT hsz hdf hE hV hL hA hm hw
    have hall : ∀ j, j < opl.length → listed.getD j false = true := by
      intro j hj
      have := List.countP_eq_zero.1 (Nat.le_zero.1 hcnt) j (List.mem_range.2 hj)
      simpa using this
    exact ⟨ready_none hs hall, done listed m a A w hall hT hsz hdf hE hm hw⟩
  | succ f ih =>
    intro listed m a A w hcnt hs hdown hH hT hsz hdf hE hV hL hA hm hw
    refine ⟨fun hr => ?_, fun i hi => ?_⟩
    · have hall : ∀ j, j < opl.length → listed.getD j false = true := by
        intro j hj
        cases e : listed.getD j false
        · obtain ⟨i, hi⟩ := ready_ex hf hs hj e
          rw [hr] at hi; simp at hi
        · rfl
      exact done listed m a A w hall hT hsz hdf hE hm hw
    obtain ⟨h0, o, ho, hdir⟩ := mem_ready.1 hi
    have hin : i < opl.length := by simpa using (Array.getElem?_eq_some_iff.1 ho).1
    have ho' : opl[i]? = some o := by simpa using ho
    have hli : listed.getD i false = false := by rw [← listed_get hs hin true]; exact h0
    have hdl : ∀ j ∈ directs o, listed.getD j false = true := fun j hj => by
      unfold directs at hj
      obtain ⟨e', he', rfl⟩ := List.mem_map.1 hj
      obtain ⟨he1, he2⟩ := List.mem_filter.1 he'
      exact hdir e' (by simpa using he1) he2
    have hanc := anc_listed hf (L := fun j => listed.getD j false) hdown i o ho' hdl
    have hdst : ∀ (j : Nat) (o'' : Oper), opl[j]? = some o'' → (opl[j]?).bind Oper.dst = o''.dst := fun j o'' h => by rw [h]; rfl
    have hset := fun j => set_get (i := i) hs hin j
    have hcnt' : (List.range opl.length).countP (fun j => !(listed.setIfInBounds i true).getD j false) ≤ f := by
      have := cnt_upd (fun j => !listed.getD j false) (fun j => !(listed.setIfInBounds i true).getD j false) i (by simp [hli]) (by simp only [hset]; simp [upd]) (fun j hj => by simp only [hset]; simp [upd, hj]) opl.length hin
      omega
    have hdown' : ∀ (i' : Nat) (o' : Oper), opl[i']? = some o' → (listed.setIfInBounds i true).getD i' false = true → ∀ j ∈ directs o', (listed.setIfInBounds i true).getD j false = true := by
      intro i' o'' ho'' hl' j hj
      rw [hset] at hl' ⊢
      unfold upd at hl' ⊢
      by_cases ei : i' = i
      · subst ei
        have : o'' = o := by rw [ho'] at ho''; exact (Option.some.inj ho'').symm
        subst this
        split
        · rfl
        · exact hdl j hj
      · simp only [ei, if_false] at hl'
        split
        · rfl
        · exact hdown i' o'' ho'' hl' j hj
    have hunl : ∀ j, (listed.setIfInBounds i true).getD j false = false → j ≠ i ∧ listed.getD j false = false := by
      intro j hj
      rw [hset] at hj; unfold upd at hj
      split at hj
      · exact absurd hj (by simp)
      · exact ⟨by assumption, hj⟩
    have hlst : ∀ j, listed.getD j false = true → (listed.setIfInBounds i true).getD j false = true := by
      intro j hj
      rw [hset]; unfold upd
      split
      · rfl
      · exact hj
    have hk3 := hf.three i
    by_cases hk2 : K.getD i 2 = 2
    · -- the next of the tail
      have hmi : m ≤ i := by
        have := hT i hin hk2
        rw [hli] at this
        simpa using this
      have hnone : ∀ j, m ≤ j → j < i → K.getD j 2 ≠ 2 := by
        intro j h1 h2 h3
        have hlj : listed.getD j false = true := hanc j (hf.tTail i j o ho' hk2 h3 h2)
        rw [hT j (by omega) h3] at hlj
        simp at hlj; omega
      have hci : i < C.length := by omega
      have e : tlFrom C opl m = o :: tlFrom C opl (i + 1) := by
        rw [tl_to hl hCK (Nat.le_of_lt hin) (i - m) m (by omega) hnone, tl_cons hl hin ho' (List.getElem?_eq_getElem hci), if_pos]
        rw [← kind_at hCK (List.getElem?_eq_getElem hci)]; exact hk2
      rw [e] at hw
      have hag : ∀ t, t ∈ o.looksAt opl.toArray → a.tmps[t]? = A.tmps[t]? := by
        intro t ht
        refine hE t fun j hj hlj hkj hdj => ?_
        have e1 := List.getElem?_eq_getElem hj
        have hdj' : opl[j].dst = some t := by rw [e1] at hdj; exact hdj
        have hlj' : listed.getD j false = true := hanc j (hf.tFree i j o _ t ho' e1 hk2 hkj hdj' ht)
        rw [hlj] at hlj'; exact absurd hlj' (by simp)
      have next : ∀ D v w', wpList P opl.toArray (Calm Q) (tlFrom C opl (i + 1)) ({ A with defers := D }.put o.dst v) w' → wpAny P .any opl.toArray Q f (listed.setIfInBounds i true) ({ a with defers := D }.put o.dst v) w' := by
        intro D v w' hw'
        refine ih _ (i + 1) _ _ w' hcnt' (by simpa using hs) hdown' (fun j hj hkj => hlst j (hH j hj hkj)) (fun j hj hkj => ?_) (by rw [put_size, put_size]; exact hsz) (by rw [put_defers, put_defers]) (fun t ht => ?_) (fun j hj hlj hkj t hdj => ?_) (fun j o' ho'' hlj hkj t ht => ?_) (by rw [put_size]; exact hA) (by omega) hw'
        · rw [hset]; unfold upd
          by_cases ej : j = i
          · subst ej; simp
          · rw [if_neg ej]
            show listed.getD j false = _
            rw [hT j hj hkj]
            by_cases hlt : j < m
            · simp [hlt]; omega
            · have : ¬ j < i + 1 := by intro h'; exact hnone j (by omega) (by omega) hkj
              simp [hlt, this]
        · rw [put_get, put_get]
          have hsz' : ({ a with defers := D } : Act).tmps.size = ({ A with defers := D } : Act).tmps.size := hsz
          rw [hsz']
          split
          · rfl
          · refine hE t fun j hj hlj hkj hdj => ?_
            have hne : j ≠ i := fun ej => by rw [ej, hk2] at hkj; exact absurd hkj (by simp)
            exact ht j hj (by rw [hset]; unfold upd; rw [if_neg hne]; exact hlj) hkj hdj
        · obtain ⟨hne, hlj'⟩ := hunl j hlj
          rw [put_get, if_neg, put_size]
          · exact hV j hj hlj' hkj t hdj
          · intro hd
            have e1 := List.getElem?_eq_getElem hj
            have hdj' : opl[j].dst = some t := by rw [e1] at hdj; exact hdj
            exact hne (hf.dist j i _ o t e1 ho' (by rw [hkj]; simp) hdj' hd)
        · obtain ⟨hne, hlj'⟩ := hunl j hlj
          rw [put_get, if_neg]
          · exact hL j o' ho'' hlj' hkj t ht
          · intro hd
            have hx := hanc j (hf.lookT j i o' o t ho'' ho' (by rw [hkj]; simp) hk2 hd ht)
            have hx : listed.getD j false = true := hx
            rw [hlj'] at hx; exact absurd hx (by simp)
      have hstep : wpOp P opl.toArray (Calm Q) i (wpList P opl.toArray (Calm Q) (tlFrom C opl (i + 1))) A w := by
        unfold wpOp
        rw [ho]
        exact hw
      unfold wpOp at hstep ⊢
      rw [ho] at hstep ⊢
      simp only at hstep ⊢
      rw [wanted_eq hag]
      split at hstep <;> rename_i hwt
      · rw [if_pos hwt]
        rcases hstep with hstep | ⟨_, hstep⟩
        · refine .inl ?_
          unfold Oper.wp at hstep ⊢
          rw [exec_eq (hf.sel i o ho') hag]
          exact upon_over hdf.symm hstep next
        · exact (asks_calm hstep).elim
      · rw [if_neg hwt]
        have := next A.defers undef w hstep
        rw [show ({ a with defers := A.defers } : Act) = a by rw [← hdf]] at this
        exact this
    · -- a free one
      have hk0 : K.getD i 2 ≠ 0 := fun h => by have := hH i hin h; rw [hli] at this; exact absurd this (by simp)
      have hk1 : K.getD i 2 = 1 := by omega
      have hag : ∀ t, t ∈ o.looksAt opl.toArray → a.tmps[t]? = (fr a0 (fun j => (opl[j]?).bind Oper.dst) (ntOf C) vals i).tmps[t]? := by
        intro t ht
        rw [← hL i o ho' hli hk1 t ht]
        refine hE t fun j hj hlj hkj hdj => ?_
        have e1 := List.getElem?_eq_getElem hj
        have hdj' : opl[j].dst = some t := by rw [e1] at hdj; exact hdj
        have hlj' : listed.getD j false = true := hanc j (hf.lookN i j o _ t ho' e1 hk2 (by rw [hkj]; simp) hdj' ht).2
        rw [hlj] at hlj'; exact absurd hlj' (by simp)
      have next : wpAny P .any opl.toArray Q f (listed.setIfInBounds i true) (a.put o.dst (vals i)) w := by
        refine ih _ m _ A w hcnt' (by simpa using hs) hdown' (fun j hj hkj => hlst j (hH j hj hkj)) (fun j hj hkj => ?_) (by rw [put_size]; exact hsz) (by rw [put_defers]; exact hdf) (fun t ht => ?_) (fun j hj hlj hkj t hdj => ?_) (fun j o' ho'' hlj hkj t ht => ?_) hA hm hw
        · have hne : j ≠ i := fun ej => by rw [ej, hk1] at hkj; exact absurd hkj (by simp)
          rw [hset]; unfold upd; rw [if_neg hne]; exact hT j hj hkj
        · rw [put_get]
          by_cases hd : o.dst = some t
          · rw [if_pos hd, hV i hin hli hk1 t (by rw [hdst i o ho']; exact hd), hsz]
          · rw [if_neg hd]
            refine hE t fun j hj hlj hkj hdj => ?_
            have hne : j ≠ i := fun ej => by subst ej; rw [hdst j o ho'] at hdj; exact hd hdj
            exact ht j hj (by rw [hset]; unfold upd; rw [if_neg hne]; exact hlj) hkj hdj
        · obtain ⟨hne, hlj'⟩ := hunl j hlj
          exact hV j hj hlj' hkj t hdj
        · obtain ⟨hne, hlj'⟩ := hunl j hlj
          exact hL j o' ho'' hlj' hkj t ht
      have hst := hS i o ho' hk1 w
      unfold wpOp
      rw [ho]
      simp only
      rw [wanted_eq hag]
      split at hst <;> rename_i hwt
      · rw [if_pos hwt]
        refine .inl ?_
        unfold Oper.wp at hst ⊢
        rw [exec_eq (hf.sel i o ho') hag]
        refine upon_turn (G := fun a' w' => w' = w ∧ ∃ v, a' = (fr a0 (fun j => (opl[j]?).bind Oper.dst) (ntOf C) vals i).put o.dst v ∧ v = vals i) hst fun v w' hG => ?_
        obtain ⟨rfl, v', hvv, rfl⟩ := hG
        rw [put_same hvv (by rw [fr_size, hsz, hA])]
        exact next
      · rw [if_neg hwt, ← hst]
        exact next
end

section
variable {P : Program} {opl : List Oper} {K : List Nat} {C : List Cls} {Q : Exit → Act → World → Prop}
theorem wpAny_one (hf : Fine opl K) (hCK : C.map Cls.kind = K) {w0 : World} {a0 : Act} (hch : Chain P opl.toArray w0 Q C opl a0 [] []) :
    ∀ (f : Nat) (listed : Array Bool) (vals : Nat → Value) (gh : Nat → Nat × Nat) (w : World), (List.range opl.length).countP (fun j => !listed.getD j false) ≤ f → listed.size = opl.length →
      (∀ (i : Nat) (o : Oper), opl[i]? = some o → listed.getD i false = true → ∀ j ∈ directs o, listed.getD j false = true) →
      (∀ j, K.getD j 2 = 2 → listed.getD j false = false) → Below w0.heap.size w0 w →
      Cons P opl.toArray C opl a0 vals → (∀ i (c : Cls), C[i]? = some c → c.kind ≠ 2 → listed.getD i false = true → c.spec.fact (vals i) (gh i) w) →
      (∀ i (c : Cls), C[i]? = some c → c.kind ≠ 2 → listed.getD i false = true → ∀ k, c.spec.own (gh i) k → w0.heap.size ≤ k ∧ k < w.heap.size) →
      (∀ i j (c c' : Cls), C[i]? = some c → C[j]? = some c' → c.kind ≠ 2 → c'.kind ≠ 2 → i ≠ j → listed.getD i false = true → listed.getD j false = true → ∀ k, c.spec.own (gh i) k → ¬ c'.spec.own (gh j) k) →
      wpAny P .any opl.toArray Q f listed (fr a0 (fun j => (opl[j]?).bind Oper.dst) (fun j => listed.getD j false) vals opl.length) w := by
  have hl : C.length = opl.length := by rw [← hf.len, ← hCK, List.length_map]
  have hdst : ∀ (j : Nat) (o'' : Oper), opl[j]? = some o'' → (opl[j]?).bind Oper.dst = o''.dst := fun j o'' h => by rw [h]; rfl
  have huniq : ∀ t j j', j < opl.length → j' < opl.length → K.getD j 2 ≠ 2 → (opl[j]?).bind Oper.dst = some t → (opl[j']?).bind Oper.dst = some t → j = j' := by
    intro t j j' hj hj' hk h h'
    have e1 := List.getElem?_eq_getElem hj
    have e2 := List.getElem?_eq_getElem hj'
    rw [e1] at h; rw [e2] at h'
    exact hf.dist j j' _ _ t e1 e2 hk h h'
  have hnt : ∀ j, ntOf C j = (K.getD j 2 != 2) := nt_at hCK
  have hfree : ∀ (vals : Nat → Value), Cons P opl.toArray C opl a0 vals → ∀ j o, opl[j]? = some o → K.getD j 2 = 1 → StepFree P opl.toArray o (fr a0 (fun j => (opl[j]?).bind Oper.dst) (ntOf C) vals j) (vals j) := by
    intro vals hv j o ho hk
    obtain ⟨h1, _⟩ := Chain.steps C opl a0 [] [] hch vals (fun _ => (0, 0)) hv
    have hj : j < C.length := by rw [hl]; exact (List.getElem?_eq_some_iff.1 ho).1
    have hc := List.getElem?_eq_getElem hj
    obtain ⟨o', ho', _, hg⟩ := h1 j C[j] hc
    have : o' = o := by rw [ho] at ho'; exact (Option.some.inj ho').symm
    subst this
    have hk' := kind_at hCK hc
    rw [hk] at hk'
    cases e : C[j] with
    | head S => rw [e] at hk'; exact absurd hk' (by simp [Cls.kind])
    | tail => rw [e] at hk'; exact absurd hk' (by simp [Cls.kind])
    | free => exact hg e
  -- all of the head is done: the second part
  have two : ∀ (f : Nat) (listed : Array Bool) (vals : Nat → Value) (gh : Nat → Nat × Nat) (w : World), (∀ j, j < opl.length → K.getD j 2 = 0 → listed.getD j false = true) → (List.range opl.length).countP (fun j => !listed.getD j false) ≤ f → listed.size = opl.length →
      (∀ (i : Nat) (o : Oper), opl[i]? = some o → listed.getD i false = true → ∀ j ∈ directs o, listed.getD j false = true) →
      (∀ j, K.getD j 2 = 2 → listed.getD j false = false) → Below w0.heap.size w0 w →
      Cons P opl.toArray C opl a0 vals → (∀ i (c : Cls), C[i]? = some c → c.kind ≠ 2 → listed.getD i false = true → c.spec.fact (vals i) (gh i) w) →
      (∀ i (c : Cls), C[i]? = some c → c.kind ≠ 2 → listed.getD i false = true → ∀ k, c.spec.own (gh i) k → w0.heap.size ≤ k ∧ k < w.heap.size) →
      (∀ i j (c c' : Cls), C[i]? = some c → C[j]? = some c' → c.kind ≠ 2 → c'.kind ≠ 2 → i ≠ j → listed.getD i false = true → listed.getD j false = true → ∀ k, c.spec.own (gh i) k → ¬ c'.spec.own (gh j) k) →
      wpAny P .any opl.toArray Q f listed (fr a0 (fun j => (opl[j]?).bind Oper.dst) (fun j => listed.getD j false) vals opl.length) w := by
    intro f listed vals gh w hH hcnt hs hdown hsuf hb hpure hfact hown hap
    obtain ⟨_, F', hfin, hF'⟩ := Chain.steps C opl a0 [] [] hch vals gh hpure
    -- a free one's own is none, a head's is listed
    have frF : ∀ j (c : Cls), C[j]? = some c → c.kind ≠ 2 → listed.getD j false = true ∨ c = .free := by
      intro j c hc hk
      have hj : j < opl.length := by rw [← hl]; exact (List.getElem?_eq_some_iff.1 hc).1
      cases c with
      | head S => exact .inl (hH j hj (kind_at hCK hc))
      | free => exact .inr rfl
      | tail => exact absurd rfl hk
    refine wpAny_two hf hCK (hfree vals hpure) f listed 0 _ (fr a0 (fun j => (opl[j]?).bind Oper.dst) (ntOf C) vals C.length) w hcnt hs hdown hH (fun j hj hk => by rw [hsuf j hk]; simp) (by rw [fr_size, fr_size]) (by rw [fr_defers, fr_defers]) (fun t ht => ?_) (fun j hj hlj hkj t hdj => ?_) (fun j o ho hlj hkj t ht => ?_) (fr_size _) (Nat.zero_le _) ?_
    · rw [hl]
      by_cases hx : ∃ j, j < opl.length ∧ K.getD j 2 ≠ 2 ∧ (opl[j]?).bind Oper.dst = some t
      · obtain ⟨j, hj, hk, hd⟩ := hx
        have hlj : listed.getD j false = true := by
          have h3 := hf.three j
          by_cases h0 : K.getD j 2 = 0
          · exact hH j hj h0
          · cases e : listed.getD j false
            · exact absurd hd (ht j hj e (by omega))
            · rfl
        rw [fr_hit opl.length hj hlj hd (fun j' hj' h => (huniq t j j' hj hj' hk hd h).symm), fr_hit opl.length hj (by rw [hnt]; simpa using hk) hd (fun j' hj' h => (huniq t j j' hj hj' hk hd h).symm)]
      · rw [fr_miss opl.length (fun j hj h => ?_), fr_miss opl.length (fun j hj h => ?_)]
        · rw [hnt]
          by_cases hk : K.getD j 2 = 2
          · rw [hk]; rfl
          · exact absurd ⟨j, hj, hk, h⟩ hx
        · by_cases hk : K.getD j 2 = 2
          · exact hsuf j hk
          · exact absurd ⟨j, hj, hk, h⟩ hx
    · rw [hl, fr_hit opl.length hj (by rw [hnt, hkj]; rfl) hdj (fun j' hj' h => (huniq t j j' hj hj' (by rw [hkj]; simp) hdj h).symm), fr_size]
    · rw [hl]
      have hj : j < opl.length := (List.getElem?_eq_some_iff.1 ho).1
      by_cases hx : ∃ j', j' < opl.length ∧ K.getD j' 2 ≠ 2 ∧ (opl[j']?).bind Oper.dst = some t
      · obtain ⟨j', hj', hk, hd⟩ := hx
        have e1 := List.getElem?_eq_getElem hj'
        have hlt := (hf.lookN j j' o _ t ho e1 (by rw [hkj]; simp) hk (by rw [e1] at hd; exact hd) ht).1
        rw [fr_hit opl.length hj' (by rw [hnt]; simpa using hk) hd (fun j'' hj'' h => (huniq t j' j'' hj' hj'' hk hd h).symm), fr_hit j hlt (by rw [hnt]; simpa using hk) hd (fun j'' hj'' h => (huniq t j' j'' hj' (by omega) hk hd h).symm)]
      · rw [fr_miss opl.length (fun j' hj' h => ?_), fr_miss j (fun j' hj' h => ?_)]
        · rw [hnt]
          by_cases hk : K.getD j' 2 = 2
          · rw [hk]; rfl
          · exact absurd ⟨j', by omega, hk, h⟩ hx
        · rw [hnt]
          by_cases hk : K.getD j' 2 = 2
          · rw [hk]; rfl
          · exact absurd ⟨j', hj', hk, h⟩ hx
    · have := hfin w hb (fun x hx => ?_) ⟨fun x hx k hk => ?_, fun x hx y hy hne k hk => ?_⟩
      · simpa [tlFrom] using this
      · rcases hF' x hx with h | ⟨j, c, hc, hk, rfl⟩
        · simp at h
        · rcases frF j c hc hk with hlj | rfl
          · rw [specOf_fact hk]; exact hfact j c hc hk hlj
          · exact trivial
      · rcases hF' x hx with h | ⟨j, c, hc, hk', rfl⟩
        · simp at h
        · rcases frF j c hc hk' with hlj | rfl
          · rw [specOf_own hk'] at hk; exact hown j c hc hk' hlj k hk
          · exact hk.elim
      · rcases hF' x hx with h | ⟨j, c, hc, hk', rfl⟩
        · simp at h
        rcases hF' y hy with h | ⟨j', c', hc', hk'', rfl⟩
        · simp at h
        rcases frF j c hc hk' with hlj | rfl
        · rcases frF j' c' hc' hk'' with hlj' | rfl
          · rw [specOf_own hk'] at hk; rw [specOf_own hk'']; exact hap j j' c c' hc hc' hk' hk'' (fun e => hne (by rw [e])) hlj hlj' k hk
          · exact fun h => h.elim
        · exact hk.elim
  intro f
  induction f with
  | zero =>
    intro listed vals gh w hcnt
    have hall : ∀ j, j < opl.length → listed.getD j false = true := by
      intro j hj
      have := List.countP_eq_zero.1 (Nat.le_zero.1 hcnt) j (List.mem_range.2 hj)
      simpa using this
    exact two 0 listed vals gh w (fun j hj _ => hall j hj) hcnt
  | succ f ih =>
    intro listed vals gh w hcnt hs hdown hsuf hb hpure hfact hown hap
    by_cases hH : ∀ j, j < opl.length → K.getD j 2 = 0 → listed.getD j false = true
    · exact two (f + 1) listed vals gh w hH hcnt hs hdown hsuf hb hpure hfact hown hap
    have hex : ∃ i, i < opl.length ∧ K.getD i 2 = 0 ∧ listed.getD i false = false := by
      refine Classical.byContradiction fun hno => hH fun j hj hk => ?_
      cases e : listed.getD j false
      · exact absurd ⟨j, hj, hk, e⟩ hno
      · rfl
    obtain ⟨i0, hi0, hk0, hl0⟩ := hex
    refine ⟨fun h => by obtain ⟨i, hi⟩ := ready_ex hf hs hi0 hl0; rw [h] at hi; simp at hi, fun i hi => ?_⟩
    obtain ⟨h0, o, ho, hdir⟩ := mem_ready.1 hi
    have hin : i < opl.length := by simpa using (Array.getElem?_eq_some_iff.1 ho).1
    have ho' : opl[i]? = some o := by simpa using ho
    have hli : listed.getD i false = false := by rw [← listed_get hs hin true]; exact h0
    have hdl : ∀ j ∈ directs o, listed.getD j false = true := fun j hj => by
      unfold directs at hj
      obtain ⟨e', he', rfl⟩ := List.mem_map.1 hj
      obtain ⟨he1, he2⟩ := List.mem_filter.1 he'
      exact hdir e' (by simpa using he1) he2
    have hanc := anc_listed hf (L := fun j => listed.getD j false) hdown i o ho' hdl
    have hset := fun j => set_get (i := i) hs hin j
    have hki : K.getD i 2 ≠ 2 := by
      intro hk
      have := hanc i0 (hf.tHead i i0 o ho' hi0 hk hk0)
      have this : listed.getD i0 false = true := this
      rw [hl0] at this; exact absurd this (by simp)
    have hiC : i < C.length := by rw [hl]; exact hin
    have hCi := List.getElem?_eq_getElem hiC
    have hkc : (C[i]).kind ≠ 2 := by rw [← kind_at hCK hCi]; exact hki
    obtain ⟨hst, _⟩ := Chain.steps C opl a0 [] [] hch vals gh hpure
    obtain ⟨o2, ho2, hhead, hfr⟩ := hst i C[i] hCi
    have : o2 = o := by rw [ho'] at ho2; exact (Option.some.inj ho2).symm
    subst this
    have hagree : ∀ t, t ∈ o2.looksAt opl.toArray → (fr a0 (fun j => (opl[j]?).bind Oper.dst) (fun j => listed.getD j false) vals opl.length).tmps[t]? = (fr a0 (fun j => (opl[j]?).bind Oper.dst) (ntOf C) vals i).tmps[t]? := by
      intro t ht
      by_cases hx : ∃ j, j < opl.length ∧ K.getD j 2 ≠ 2 ∧ (opl[j]?).bind Oper.dst = some t
      · obtain ⟨j, hj, hk, hd⟩ := hx
        have e1 := List.getElem?_eq_getElem hj
        obtain ⟨hlt, hja⟩ := hf.lookN i j o2 _ t ho' e1 hki hk (by rw [e1] at hd; exact hd) ht
        have hlj : listed.getD j false = true := hanc j hja
        rw [fr_hit opl.length hj hlj hd (fun j' hj' h => (huniq t j j' hj hj' hk hd h).symm), fr_hit i hlt (by rw [hnt]; simpa using hk) hd (fun j' hj' h => (huniq t j j' hj (by omega) hk hd h).symm)]
      · rw [fr_miss opl.length (fun j hj h => ?_), fr_miss i (fun j hj h => ?_)]
        · rw [hnt]
          by_cases hk : K.getD j 2 = 2
          · rw [hk]; rfl
          · exact absurd ⟨j, by omega, hk, h⟩ hx
        · by_cases hk : K.getD j 2 = 2
          · exact hsuf j hk
          · exact absurd ⟨j, hj, hk, h⟩ hx
    -- what holds behind it
    have next : ∀ (v : Value) (w' : World) (vals' : Nat → Value), Cons P opl.toArray C opl a0 vals' → (∀ j, listed.getD j false = true → vals' j = vals j) → vals' i = v → Below w.heap.size w w' → (C[i]).spec.fact v (w.heap.size, w'.heap.size) w' →
        wpAny P .any opl.toArray Q f (listed.setIfInBounds i true) ((fr a0 (fun j => (opl[j]?).bind Oper.dst) (fun j => listed.getD j false) vals opl.length).put o2.dst v) w' := by
      intro v w' vals' hcons hsame hvi hbw hft
      have how : ∀ (S : Spec) k, S.own (w.heap.size, w'.heap.size) k → w.heap.size ≤ k ∧ k < w'.heap.size := fun S k h => by
        cases S with
        | val c => exact h.elim
        | any p R => exact h
      have e : (fr a0 (fun j => (opl[j]?).bind Oper.dst) (fun j => listed.getD j false) vals opl.length).put o2.dst v =
          fr a0 (fun j => (opl[j]?).bind Oper.dst) (fun j => (listed.setIfInBounds i true).getD j false) vals' opl.length := by
        have e1 : (fun j => (listed.setIfInBounds i true).getD j false) = upd (fun j => listed.getD j false) i true := funext fun j => set_get hs hin j
        rw [e1, fr_congr (vals := vals') (vals' := upd vals i v) opl.length (fun j hj hlj => by
          unfold upd at hlj ⊢
          by_cases ej : j = i
          · rw [if_pos ej, ej]; exact hvi
          · rw [if_neg ej] at hlj ⊢; exact hsame j hlj)]
        apply act_ext
        · intro t
          rw [put_get]
          by_cases hd : o2.dst = some t
          · have hd' : (opl[i]?).bind Oper.dst = some t := by rw [hdst i o2 ho']; exact hd
            rw [if_pos hd, fr_hit opl.length hin (by simp [upd]) hd' (fun j' hj' h => (huniq t i j' hin hj' hki hd' h).symm), fr_size]
            simp [upd]
          · rw [if_neg hd]
            by_cases hx : ∃ j, j < opl.length ∧ K.getD j 2 ≠ 2 ∧ listed.getD j false = true ∧ (opl[j]?).bind Oper.dst = some t
            · obtain ⟨j, hj, hk, hlj, hdj⟩ := hx
              have hne : j ≠ i := fun ej => by subst ej; rw [hdst j o2 ho'] at hdj; exact hd hdj
              rw [fr_hit opl.length hj hlj hdj (fun j' hj' h => (huniq t j j' hj hj' hk hdj h).symm), fr_hit opl.length hj (by simp [upd, hne, hlj]) hdj (fun j' hj' h => (huniq t j j' hj hj' hk hdj h).symm)]
              simp [upd, hne]
            · have hmiss : ∀ j, j < opl.length → (opl[j]?).bind Oper.dst = some t → listed.getD j false = false := by
                intro j hj hdj
                by_cases hk : K.getD j 2 = 2
                · exact hsuf j hk
                · cases e : listed.getD j false
                  · rfl
                  · exact absurd ⟨j, hj, hk, e, hdj⟩ hx
              rw [fr_miss opl.length hmiss, fr_miss opl.length (fun j hj h => ?_)]
              have hne : j ≠ i := fun ej => by subst ej; rw [hdst j o2 ho'] at h; exact hd h
              simp only [upd, hne, if_false]
              exact hmiss j hj h
        · rw [fr_defers, put_defers, fr_defers]
      rw [e]
      have hsz := hbw.size
      refine ih (listed.setIfInBounds i true) vals' (upd gh i (w.heap.size, w'.heap.size)) w' ?_ (by simpa using hs) ?_ ?_ ((hb.trans (hbw.mono hb.size))) hcons ?_ ?_ ?_
      · have := cnt_upd (fun j => !listed.getD j false) (fun j => !(listed.setIfInBounds i true).getD j false) i (by simp [hli]) (by simp only [hset]; simp [upd]) (fun j hj => by simp only [hset]; simp [upd, hj]) opl.length hin
        omega
      · intro i' o'' ho'' hl' j hj
        rw [hset] at hl' ⊢
        unfold upd at hl' ⊢
        by_cases ei : i' = i
        · subst ei
          have : o'' = o2 := by rw [ho'] at ho''; exact (Option.some.inj ho'').symm
          subst this
          split
          · rfl
          · exact hdl j hj
        · simp only [ei, if_false] at hl'
          split
          · rfl
          · exact hdown i' o'' ho'' hl' j hj
      · intro j hj
        rw [hset]; unfold upd
        rw [if_neg (fun e : j = i => hki (by rw [← e]; exact hj))]; exact hsuf j hj
      · intro j c hc hk hlj
        rw [hset] at hlj
        unfold upd at hlj ⊢
        by_cases ej : j = i
        · subst ej
          rw [if_pos rfl, hvi]
          have : c = C[j] := by rw [hCi] at hc; exact (Option.some.inj hc).symm
          rw [this]; exact hft
        · rw [if_neg ej] at hlj ⊢
          rw [hsame j hlj]
          obtain ⟨_, _, hgj, _⟩ := hst j c hc
          cases c with
          | head S => exact (hgj S rfl).1.2 _ _ _ _ hbw (hfact j _ hc hk hlj)
          | free => exact trivial
          | tail => exact absurd rfl hk
      · intro j c hc hk hlj k hkk
        rw [hset] at hlj
        unfold upd at hlj hkk
        by_cases ej : j = i
        · subst ej
          rw [if_pos rfl] at hkk
          have : c = C[j] := by rw [hCi] at hc; exact (Option.some.inj hc).symm
          rw [this] at hkk
          have := how _ k hkk
          have := hb.size
          omega
        · rw [if_neg ej] at hlj hkk
          have := hown j c hc hk hlj k hkk
          omega
      · intro j j' c c' hc hc' hk hk' hne hlj hlj' k hkk hkk'
        rw [hset] at hlj hlj'
        unfold upd at hlj hlj' hkk hkk'
        by_cases ej : j = i
        · subst ej
          have ej' : j' ≠ j := fun e => hne e.symm
          rw [if_pos rfl] at hkk
          rw [if_neg ej'] at hlj' hkk'
          have : c = C[j] := by rw [hCi] at hc; exact (Option.some.inj hc).symm
          rw [this] at hkk
          have h1 := how _ k hkk
          have h2 := hown j' c' hc' hk' hlj' k hkk'
          omega
        · rw [if_neg ej] at hlj hkk
          by_cases ej' : j' = i
          · subst ej'
            rw [if_pos rfl] at hkk'
            have : c' = C[j'] := by rw [hCi] at hc'; exact (Option.some.inj hc').symm
            rw [this] at hkk'
            have h1 := how _ k hkk'
            have h2 := hown j c hc hk hlj k hkk
            omega
          · rw [if_neg ej'] at hlj' hkk'
            exact hap j j' c c' hc hc' hk hk' hne hlj hlj' k hkk hkk'
    unfold wpOp
    rw [ho]
    simp only
    rw [wanted_eq hagree]
    cases hcc : C[i] with
    | tail => exact absurd (by rw [hcc]; rfl) hkc
    | head S =>
      obtain ⟨hgood, F2, hstep, hF2⟩ := hhead S hcc
      rw [hcc] at next
      have hk0 : K.getD i 2 = 0 := by rw [kind_at hCK hCi, hcc]; rfl
      -- the values behind it: the free ones not yet done are reckoned anew
      have next : ∀ (v : Value) (w' : World), Below w.heap.size w w' → S.pure v → S.fact v (w.heap.size, w'.heap.size) w' →
          wpAny P .any opl.toArray Q f (listed.setIfInBounds i true) ((fr a0 (fun j => (opl[j]?).bind Oper.dst) (fun j => listed.getD j false) vals opl.length).put o2.dst v) w' := by
        intro v w' hbw hp hft
        have hkp : ∀ j, (fun j => (K.getD j 2 == 0) || listed.getD j false) j = true → comp P opl C a0 (fun j => (K.getD j 2 == 0) || listed.getD j false) (upd vals i v) opl.length j = upd vals i v j := fun j hj => comp_keep hj _
        refine next v w' (comp P opl C a0 (fun j => (K.getD j 2 == 0) || listed.getD j false) (upd vals i v) opl.length) ?_ (fun j hlj => ?_) ?_ hbw hft
        · refine comp_cons (fun j S' hc => ?_) (fun j o' hc ho'' hkj => ?_)
          · have hkj0 : K.getD j 2 = 0 := by rw [kind_at hCK hc]; rfl
            refine ⟨by simp only [hkj0]; rfl, ?_⟩
            unfold upd
            by_cases ej : j = i
            · subst ej
              rw [if_pos rfl]
              rw [hCi, hcc] at hc
              cases hc; exact hp
            · rw [if_neg ej]
              have hj : j < opl.length := by rw [← hl]; exact (List.getElem?_eq_some_iff.1 hc).1
              exact hpure j _ _ hc (List.getElem?_eq_getElem hj)
          · have hk1 : K.getD j 2 = 1 := by rw [kind_at hCK hc]; rfl
            have hlj : listed.getD j false = true := by simp only [hk1] at hkj; exact hkj
            have hne : j ≠ i := fun e => by rw [e, hli] at hlj; exact absurd hlj (by simp)
            have h0 : vals j = _ := hpure j _ o' hc ho''
            have hu : upd vals i v j = vals j := if_neg hne
            rw [hu, h0]
            refine opVal_eq (hf.sel j o' ho'') fun t ht => ?_
            have hancj := anc_listed hf (L := fun j => listed.getD j false) hdown j o' ho'' (hdown j o' ho'' hlj)
            have hjl : j < opl.length := (List.getElem?_eq_some_iff.1 ho'').1
            by_cases hx : ∃ j', j' < opl.length ∧ K.getD j' 2 ≠ 2 ∧ (opl[j']?).bind Oper.dst = some t
            · obtain ⟨j', hj', hk', hd⟩ := hx
              have e1 := List.getElem?_eq_getElem hj'
              obtain ⟨hlt, hja⟩ := hf.lookN j j' o' _ t ho'' e1 (by rw [hk1]; simp) hk' (by rw [e1] at hd; exact hd) ht
              have hlj' : listed.getD j' false = true := hancj j' hja
              rw [fr_hit j hlt (by rw [hnt]; simpa using hk') hd (fun j'' hj'' h => (huniq t j' j'' hj' (by omega) hk' hd h).symm), fr_hit j hlt (by rw [hnt]; simpa using hk') hd (fun j'' hj'' h => (huniq t j' j'' hj' (by omega) hk' hd h).symm)]
              have := hkp j' (by simp only [hlj']; simp)
              have hu : upd vals i v j' = vals j' := if_neg (fun e => by rw [e, hli] at hlj'; exact absurd hlj' (by simp))
              rw [this, hu]
            · have hm : ∀ j', j' < j → (opl[j']?).bind Oper.dst = some t → ntOf C j' = false := by
                intro j' hj' h
                rw [hnt]
                by_cases hk : K.getD j' 2 = 2
                · rw [hk]; rfl
                · exact absurd ⟨j', by omega, hk, h⟩ hx
              rw [fr_miss j hm, fr_miss j hm]
        · rw [hkp j (by simp [hlj])]; unfold upd
          rw [if_neg (fun e => by rw [e, hli] at hlj; exact absurd hlj (by simp))]
        · rw [hkp i (by simp only [hk0]; rfl)]; unfold upd; rw [if_pos rfl]
      have hfacts : ∀ x ∈ F2, (∃ t, x.1 = some t ∧ t ∈ o2.looksAt opl.toArray) → x.2.2.2.fact x.2.1 x.2.2.1 w := by
        intro x hx ⟨t, hxt, ht⟩
        rcases hF2 x hx with h | ⟨j, c', hj, hc', hk', rfl⟩
        · simp at h
        · have hjn : j < opl.length := by omega
          have e1 := List.getElem?_eq_getElem hjn
          have hd' : opl[j].dst = some t := by simp only [e1] at hxt; exact hxt
          have hlook := hf.lookN i j o2 _ t ho' e1 hki (by rw [kind_at hCK hc']; exact hk') hd' ht
          rw [specOf_fact hk']
          exact hfact j c' hc' hk' (hanc j hlook.2)
      have hst1 := hstep w hb hfacts
      split at hst1 <;> rename_i hw
      · rw [if_pos hw]
        refine .inl ?_
        unfold Oper.wp at hst1 ⊢
        rw [exec_eq (hf.sel i o2 ho') hagree]
        refine upon_turn hst1 fun v w' hG => ?_
        obtain ⟨v', hvv, hp, hft⟩ := hG.2
        rw [put_same hvv (by rw [fr_size, fr_size])]
        exact next v' w' hG.1 hp hft
      · rw [if_neg hw]
        exact next undef w (Below.refl _ _) hst1.1 hst1.2
    | free =>
      have hstep := hfr hcc w
      have hsame : ∀ j, listed.getD j false = true → vals j = vals j := fun _ _ => rfl
      rw [hcc] at next
      split at hstep <;> rename_i hw
      · rw [if_pos hw]
        refine .inl ?_
        unfold Oper.wp at hstep ⊢
        rw [exec_eq (hf.sel i o2 ho') hagree]
        refine upon_turn (G := fun a' w' => w' = w ∧ ∃ v, a' = (fr a0 (fun j => (opl[j]?).bind Oper.dst) (ntOf C) vals i).put o2.dst v ∧ v = vals i) hstep fun v w' hG => ?_
        obtain ⟨rfl, v', hvv, rfl⟩ := hG
        rw [put_same hvv (by rw [fr_size, fr_size])]
        exact next _ w' vals hpure hsame rfl (Below.refl _ _) trivial
      · rw [if_neg hw]
        rw [← hstep]
        exact next _ w vals hpure hsame rfl (Below.refl _ _) trivial

/-- THE RULE: a region that draws its order, walked once. -/
theorem region_chain {id : Nat} (hm : P.follows .mixedOrders = true) (K : List Nat) (C : List Cls) (hCK : C.map Cls.kind = K) (hc : chk opl K = true) {a : Act} {w : World}
    (h : Chain P opl.toArray w.drew Q C opl a [] []) : (Code.region id opl.toArray true).wp P Q a w := by
  have hf := fine_of_chk hc
  have hp := Chain.len _ _ _ _ _ h
  refine wp_region_any hm ?_
  have hv : ∃ vals : Nat → Value, Cons P opl.toArray C opl a vals := by
    have hx : ∀ i : Nat, ∃ v, ∀ S : Spec, C[i]? = some (.head S) → S.pure v := by
      intro i
      cases hc : C[i]? with
      | none => exact ⟨undef, fun c h => by cases h⟩
      | some c =>
        cases c with
        | head S =>
          obtain ⟨v, hv⟩ := (hp S (List.mem_of_getElem? hc)).1
          exact ⟨v, fun S' h => by cases h; exact hv⟩
        | free => exact ⟨undef, fun S' h => by cases h⟩
        | tail => exact ⟨undef, fun S' h => by cases h⟩
    exact ⟨_, comp_cons (P := P) (a0 := a) (opl := opl) (keep := fun i => K.getD i 2 == 0) (base := fun i => Classical.choose (hx i)) (fun i S hc => ⟨by rw [kind_at hCK hc]; rfl, Classical.choose_spec (hx i) S hc⟩) (fun i o hc _ hk => by
      rw [kind_at hCK hc] at hk; exact absurd hk (by simp [Cls.kind]))⟩
  obtain ⟨vals, hvals⟩ := hv
  have z : ∀ j, (Array.replicate opl.toArray.size false).getD j false = false := fun j => by
    simp [Array.getD_eq_getD_getElem?, Array.getElem?_replicate]; split <;> rfl
  have := wpAny_one hf hCK h opl.toArray.size (Array.replicate opl.toArray.size false) vals (fun _ => (0, 0)) w.drew ?_ (by simp) (fun i o _ hl => by rw [z] at hl; simp at hl) (fun j _ => z j) (Below.refl _ _) hvals (fun i c _ _ hl => by rw [z] at hl; simp at hl) (fun i c _ _ hl => by rw [z] at hl; simp at hl) (fun i j c c' _ _ _ _ _ hl => by rw [z] at hl; simp at hl)
  · have e : fr a (fun j => (opl[j]?).bind Oper.dst) (fun j => (Array.replicate opl.toArray.size false).getD j false) vals opl.length = a := by
      have : ∀ m, fr a (fun j => (opl[j]?).bind Oper.dst) (fun j => (Array.replicate opl.toArray.size false).getD j false) vals m = a := by
        intro m
        induction m with
        | zero => rfl
        | succ m ihm => rw [fr, z, ihm]; rfl
      exact this _
    rw [e] at this
    exact this
  · have h1 : (List.range opl.length).countP (fun j => !(Array.replicate opl.toArray.size false).getD j false) ≤ (List.range opl.length).length := List.countP_le_length
    simp at h1 ⊢
    omega
end

end Go.Proofs.Ytkichjejadkdgaa
