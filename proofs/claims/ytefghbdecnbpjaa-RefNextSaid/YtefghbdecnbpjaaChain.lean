/- A region that draws its order, walked once, in the order of the text: each operation is shown to give its value in ANY world that is the region's first world with new memory; so the order is of no matter. -/
import Derived.Orders
import Derived.Below
import Derived.OwnWalk
namespace Go.Proofs.Ytefghbdecnbpjaa
set_option linter.unusedVariables false
set_option linter.unusedSimpArgs false
set_option linter.unnecessarySimpa false
open Go.RowKit
/-- What an operation gives: a value that is known, or one of which something is known (p: of the value alone; R: of the value in a world, and in every later one). -/
inductive Spec where
  | val (c : Value)
  | any (p : Value → Prop) (R : Value → World → Prop)
def Spec.pure : Spec → Value → Prop
  | .val c, v => v = c
  | .any p _, v => p v
def Spec.fact : Spec → Value → World → Prop
  | .val _, _, _ => True
  | .any _ R, v, w => R v w
def Spec.good (S : Spec) : Prop := (∃ v, S.pure v) ∧ ∀ v w w', Below w.heap.size w w' → S.fact v w → S.fact v w'
theorem Spec.good_val (c : Value) : (Spec.val c).good := ⟨⟨c, rfl⟩, fun _ _ _ _ _ => trivial⟩
abbrev Given := List (Option Tmp × Value × Spec)
/-- One operation, in whatever later world, from the values that it looks at. -/
def StepOk (P : Program) (ops : Array Oper) (w0 : World) (o : Oper) (a : Act) (F : Given) (S : Spec) : Prop :=
  ∀ w, Below w0.heap.size w0 w → (∀ x ∈ F, (∃ t, x.1 = some t ∧ t ∈ o.looksAt ops) → x.2.2.fact x.2.1 w) →
    if Region.wanted o (yielded ops a.tmps) then o.wp P a w (fun a' w' => a'.defers = a.defers ∧ Below w.heap.size w w' ∧ ∃ v, a' = a.put o.dst v ∧ S.pure v ∧ S.fact v w') (fun _ _ _ => False)
    else S.pure undef ∧ S.fact undef w
def Chain (P : Program) (ops : Array Oper) (w0 : World) (Q : Exit → Act → World → Prop) : List Spec → List Oper → Act → Given → Prop
  | [], rest, a, F => ∀ w, Below w0.heap.size w0 w → (∀ x ∈ F, x.2.2.fact x.2.1 w) → wpList P ops Q rest a w
  | S :: Ss, o :: rest, a, F => S.good ∧ StepOk P ops w0 o a F S ∧ ∀ v, S.pure v → Chain P ops w0 Q Ss rest (a.put o.dst v) ((o.dst, v, S) :: F)
  | _ :: _, [], _, _ => False
theorem Chain.val {P : Program} {ops : Array Oper} {w0 : World} {Q : Exit → Act → World → Prop} {Ss : List Spec} {o : Oper} {rest : List Oper} {a : Act} {F : Given} (c : Value)
    (h : StepOk P ops w0 o a F (.val c)) (k : Chain P ops w0 Q Ss rest (a.put o.dst c) ((o.dst, c, .val c) :: F)) : Chain P ops w0 Q (.val c :: Ss) (o :: rest) a F :=
  ⟨Spec.good_val c, h, fun v hv => by cases hv; exact k⟩

/-! frames -/
theorem put_get (a : Act) (d : Option Tmp) (v : Value) (t : Nat) : (a.put d v).tmps[t]? = if d = some t then (if t < a.tmps.size then some v else none) else a.tmps[t]? := by
  cases d with
  | none => simp [Act.put]
  | some e =>
    by_cases h : e = t
    · subst h; simp [Act.put, Array.getElem?_setIfInBounds]
    · simp [Act.put, h]
theorem put_size (a : Act) (d : Option Tmp) (v : Value) : (a.put d v).tmps.size = a.tmps.size := by cases d <;> simp [Act.put]
theorem put_same {a b : Act} {d : Option Tmp} {v v' : Value} (h : a.put d v = a.put d v') (hs : a.tmps.size = b.tmps.size) : b.put d v = b.put d v' := by
  cases d with
  | none => rfl
  | some t =>
    by_cases ht : t < a.tmps.size
    · have := congrArg (fun x : Act => x.tmps[t]?) h
      simp only [put_get, if_true, ht] at this
      rw [Option.some.inj this]
    · simp [Act.put, Array.setIfInBounds, hs ▸ ht]
theorem put_defers (a : Act) (d : Option Tmp) (v : Value) : (a.put d v).defers = a.defers := by cases d <;> rfl
theorem Chain.pos {P : Program} {ops : Array Oper} {w0 : World} {Q : Exit → Act → World → Prop} {Ss : List Spec} {o : Oper} {rest : List Oper} {a : Act} {F : Given} (c : Value)
    (hw : Region.wanted o (yielded ops a.tmps) = true)
    (h : ∀ w, Below w0.heap.size w0 w → (∀ x ∈ F, (∃ t, x.1 = some t ∧ t ∈ o.looksAt ops) → x.2.2.fact x.2.1 w) → o.wp P a w (fun a' w' => a'.defers = a.defers ∧ Below w.heap.size w w' ∧ ∃ v, a' = a.put o.dst v ∧ v = c) (fun _ _ _ => False))
    (k : Chain P ops w0 Q Ss rest (a.put o.dst c) ((o.dst, c, .val c) :: F)) : Chain P ops w0 Q (.val c :: Ss) (o :: rest) a F := by
  refine Chain.val c (fun w hb hx => ?_) k
  rw [if_pos hw]
  exact Oper.wp_mono (fun a' w' ⟨h1, h2, v, h3, h4⟩ => ⟨h1, h2, v, h3, h4, trivial⟩) (h w hb hx)
theorem Chain.skip {P : Program} {ops : Array Oper} {w0 : World} {Q : Exit → Act → World → Prop} {Ss : List Spec} {o : Oper} {rest : List Oper} {a : Act} {F : Given} {c : Value}
    (hw : Region.wanted o (yielded ops a.tmps) = false) (hc : c = undef)
    (k : Chain P ops w0 Q Ss rest (a.put o.dst c) ((o.dst, c, .val c) :: F)) : Chain P ops w0 Q (.val c :: Ss) (o :: rest) a F := by
  subst hc
  refine Chain.val undef (fun w hb hx => ?_) k
  rw [hw]
  exact ⟨rfl, trivial⟩
/-- A move within the frame: nothing of memory. -/
theorem Chain.move {P : Program} {ops : Array Oper} {w0 : World} {Q : Exit → Act → World → Prop} {Ss : List Spec} {o : Oper} {rest : List Oper} {a : Act} {F : Given} (x : Operand)
    (hw : Region.wanted o (yielded ops a.tmps) = true) (ho : o.op = .move x ∨ o.op = .assign x)
    (k : Chain P ops w0 Q Ss rest (a.put o.dst (a.eval x)) ((o.dst, a.eval x, .val (a.eval x)) :: F)) : Chain P ops w0 Q (.val (a.eval x) :: Ss) (o :: rest) a F := by
  refine Chain.pos _ hw (fun w hb hx => ?_) k
  rcases ho with ho | ho <;> (unfold Oper.wp execOp; rw [ho]; exact ⟨put_defers _ _ _, Below.refl _ _, _, rfl, rfl⟩)


def opDst (ops : Array Oper) (i : Nat) : Option Tmp := (ops[i]?).bind (·.dst)
def fr (a0 : Act) (d : Nat → Option Tmp) (L : Nat → Bool) (vals : Nat → Value) : Nat → Act
  | 0 => a0
  | k + 1 => if L k then (fr a0 d L vals k).put (d k) (vals k) else fr a0 d L vals k
section
variable {a0 : Act} {d : Nat → Option Tmp} {L : Nat → Bool} {vals : Nat → Value}
theorem fr_size (k : Nat) : (fr a0 d L vals k).tmps.size = a0.tmps.size := by
  induction k with
  | zero => rfl
  | succ k ih => unfold fr; split <;> simp [put_size, ih]
theorem fr_defers (k : Nat) : (fr a0 d L vals k).defers = a0.defers := by
  induction k with
  | zero => rfl
  | succ k ih => unfold fr; split <;> simp [put_defers, ih]
theorem fr_miss {t : Nat} (k : Nat) (h : ∀ j, j < k → d j = some t → L j = false) : (fr a0 d L vals k).tmps[t]? = a0.tmps[t]? := by
  induction k with
  | zero => rfl
  | succ k ih =>
    have ih := ih fun j hj => h j (by omega)
    unfold fr; split
    · rename_i hL
      rw [put_get, if_neg (fun e => by rw [h k (by omega) e] at hL; exact absurd hL (by simp)), ih]
    · exact ih
theorem fr_hit {t j : Nat} (k : Nat) (hj : j < k) (hL : L j = true) (hd : d j = some t) (hu : ∀ i, i < k → d i = some t → i = j) :
    (fr a0 d L vals k).tmps[t]? = if t < a0.tmps.size then some (vals j) else none := by
  induction k with
  | zero => omega
  | succ k ih =>
    by_cases e : j = k
    · subst e; unfold fr; rw [if_pos hL, put_get, if_pos hd, fr_size]
    · have ih := ih (by omega) fun i hi => hu i (by omega)
      unfold fr; split
      · rw [put_get, if_neg (fun e' => e (hu k (by omega) e').symm), ih]
      · exact ih
end
theorem act_ext {a b : Act} (h : ∀ t : Nat, a.tmps[t]? = b.tmps[t]?) (hd : a.defers = b.defers) : a = b := by
  obtain ⟨x, y⟩ := a; obtain ⟨x', y'⟩ := b
  simp only at h hd
  have : x = x' := Array.ext_getElem? h
  rw [this, hd]
def upd {α : Type} (f : Nat → α) (i : Nat) (v : α) : Nat → α := fun j => if j = i then v else f j
theorem fr_upd {a0 : Act} {d : Nat → Option Tmp} {L : Nat → Bool} {vals : Nat → Value} {k i : Nat} {v : Value} (hi : i < k) (hL : L i = false)
    (hu : ∀ t j j', j < k → j' < k → d j = some t → d j' = some t → j = j') :
    fr a0 d (upd L i true) (upd vals i v) k = (fr a0 d L vals k).put (d i) v := by
  apply act_ext
  · intro t
    rw [put_get]
    by_cases hd : d i = some t
    · rw [if_pos hd, fr_hit k hi (by simp [upd]) hd fun j hj h => hu t j i hj hi h hd, fr_size]; simp [upd]
    · rw [if_neg hd]
      by_cases hm : ∃ j, j < k ∧ L j = true ∧ d j = some t
      · obtain ⟨j, hj, hl, hdj⟩ := hm
        have hne : j ≠ i := fun e => hd (e ▸ hdj)
        rw [fr_hit k hj (by simp [upd, hne, hl]) hdj fun j' hj' h => hu t j' j hj' hj h hdj, fr_hit k hj hl hdj fun j' hj' h => hu t j' j hj' hj h hdj]
        simp [upd, hne]
      · rw [fr_miss k (fun j hj h => ?_), fr_miss k (fun j hj h => ?_)]
        · cases hl : L j
          · rfl
          · exact absurd ⟨j, hj, hl, h⟩ hm
        · have hne : j ≠ i := fun e => hd (e ▸ h)
          simp only [upd, hne, if_false]
          cases hl : L j
          · rfl
          · exact absurd ⟨j, hj, hl, h⟩ hm
  · rw [fr_defers, put_defers, fr_defers]

/-! what an operation does hangs on the slots that it looks at -/
theorem eval_eq {a b : Act} {x : Operand} (h : ∀ t, x = .tmp t → a.tmps[t]? = b.tmps[t]?) : a.eval x = b.eval x := by
  cases x with
  | tmp t => have := h t rfl; simp only [Act.eval, Array.getD_eq_getD_getElem?, this]
  | const v => rfl
  | global g => rfl
  | func f => rfl
theorem exec_eq {ops : Array Oper} {o : Oper} {a b : Act} (hs : ∀ cs c, o.op ≠ .select cs c) (h : ∀ t, t ∈ o.looksAt ops → a.tmps[t]? = b.tmps[t]?) : execOp a.eval o = execOp b.eval o :=
  execOp_congr o hs fun x hx => eval_eq fun t e => h t (by
    subst e; exact List.mem_append_left _ (List.mem_filterMap.2 ⟨.tmp t, by simpa using hx, rfl⟩))
theorem wanted_eq {ops : Array Oper} {o : Oper} {a b : Act} (h : ∀ t, t ∈ o.looksAt ops → a.tmps[t]? = b.tmps[t]?) : Region.wanted o (yielded ops a.tmps) = Region.wanted o (yielded ops b.tmps) := by
  unfold Region.wanted
  cases hg : o.guard with
  | none => rfl
  | some gw =>
    obtain ⟨g, want⟩ := gw
    have hy : yielded ops a.tmps g = yielded ops b.tmps g := by
      unfold yielded
      cases ht : (ops[g]?).bind (·.dst) with
      | none => rfl
      | some t => simp only [Option.bind_some]; rw [h t (by simp [Oper.looksAt, hg, ht])]
    simp only [hy]
theorem upon_turn {P : Program} {o : Oper} {a b : Act} {G K : Act → World → Prop} {Q : Exit → Act → World → Prop} {r : Result Next} (h : o.upon P a (fun a' w' => a'.defers = a.defers ∧ G a' w') (fun _ _ _ => False) r)
    (hk : ∀ v w', G (a.put o.dst v) w' → K (b.put o.dst v) w') : o.upon P b K Q r := by
  cases r with
  | halt h' w' => cases h' <;> first | exact h.elim | exact h
  | ok n w' =>
    match n, h with
    | .value v, h => exact hk _ _ h.2
    | .skip, h => exact hk _ _ h.2
    | .defer x, h => exact absurd h.1 (by rw [put_defers]; intro e; exact absurd (congrArg List.length e) (by simp))
    | .enter f args, h =>
      refine Calls.mono h ?_
      intro e w'' he
      cases e with
      | returned v => exact hk _ _ he.2
      | panicked c => exact he.elim
      | outgrown => obtain ⟨_, _, hf⟩ := he; exact hf.elim
    | .row r' args, h => exact Rows.mono h fun v w'' hv => hk _ _ hv.2

/-! the look at the region: a text that the kernel reckons -/
def directs (o : Oper) : List Nat := (o.after.toList.filter (Region.binds .any ·)).map (·.on)
/-- All that stand ahead of each operation (a guess; 'chk' asks what is wanted of it). -/
def ancs (ops : List Oper) : List (List Nat) :=
  ops.foldl (fun acc o => acc ++ [((directs o).flatMap fun j => j :: acc.getD j []).eraseDups]) []
def chk (ops : List Oper) (k : Nat) : Bool :=
  let A := ancs ops
  let n := ops.length
  let D := ops.map (·.dst)
  let Ar := ops.toArray
  k ≤ n &&
  ((List.range n).all fun i => match ops[i]? with
    | none => true
    | some o =>
      (directs o).all (· < i) &&
      ((A.getD i []).all fun j => (directs o).contains j || (directs o).any fun m => m < i && (A.getD m []).contains j) &&
      (if i < k then
        (match o.op with | .select _ _ => false | _ => true) &&
        ((List.range k).all fun j => j == i || match D.getD j none with
          | none => true
          | some t => D.getD i none != some t && (!(o.looksAt Ar).contains t || (if j < i then (A.getD i []).contains j else (A.getD j []).contains i)))
       else (List.range i).all fun j => (A.getD i []).contains j))

section
variable {P : Program} {ops : Array Oper} {w0 : World} {Q : Exit → Act → World → Prop}
/-- The chain, opened at values that fit: each step, and the end. -/
theorem Chain.steps : ∀ (Ss : List Spec) (rest : List Oper) (a : Act) (F : Given), Chain P ops w0 Q Ss rest a F → ∀ (vals : Nat → Value), (∀ i (S : Spec), Ss[i]? = some S → S.pure (vals i)) →
    (∀ i (S : Spec), Ss[i]? = some S → ∃ o, rest[i]? = some o ∧ S.good ∧ ∃ F' : Given, StepOk P ops w0 o (fr a (fun j => (rest[j]?).bind (·.dst)) (fun _ => true) vals i) F' S ∧
      ∀ x ∈ F', x ∈ F ∨ ∃ j, ∃ S' : Spec, j < i ∧ Ss[j]? = some S' ∧ x = ((rest[j]?).bind (·.dst), vals j, S')) ∧
    (∃ F' : Given, (∀ w, Below w0.heap.size w0 w → (∀ x ∈ F', x.2.2.fact x.2.1 w) → wpList P ops Q (rest.drop Ss.length) (fr a (fun j => (rest[j]?).bind (·.dst)) (fun _ => true) vals Ss.length) w) ∧
      ∀ x ∈ F', x ∈ F ∨ ∃ j, ∃ S' : Spec, Ss[j]? = some S' ∧ x = ((rest[j]?).bind (·.dst), vals j, S')) := by
  intro Ss
  induction Ss with
  | nil => 
    intro rest a F h vals hv
    exact ⟨fun i S hi => by simp at hi, F, by intro w hw hx; unfold Chain at h; exact h w hw hx, fun x hx => .inl hx⟩
  | cons S Ss ih =>
    intro rest a F h vals hv
    match rest, h with
    | [], h => exact h.elim
    | o :: rest, h =>
      obtain ⟨hg, hs, hk⟩ := h
      have hv0 := hv 0 S rfl
      obtain ⟨h1, F1, h2, h3⟩ := ih rest (a.put o.dst (vals 0)) _ (hk _ hv0) (fun j => vals (j + 1)) fun i S' hi => hv (i + 1) S' (by simpa using hi)
      have hfr : ∀ k, fr (a.put o.dst (vals 0)) (fun j => (rest[j]?).bind (·.dst)) (fun _ => true) (fun j => vals (j + 1)) k = fr a (fun j => ((o :: rest)[j]?).bind (·.dst)) (fun _ => true) vals (k + 1) := by
        intro k
        induction k with
        | zero => simp [fr]
        | succ k ihk => rw [fr, ihk]; simp [fr]
      refine ⟨fun i S' hi => ?_, F1, ?_, fun x hx => ?_⟩
      · cases i with
        | zero =>
          simp at hi; subst hi
          exact ⟨o, rfl, hg, F, by simpa [fr] using hs, fun x hx => .inl hx⟩
        | succ i =>
          obtain ⟨o', ho', hg', F', hs', hF'⟩ := h1 i S' (by simpa using hi)
          refine ⟨o', by simpa using ho', hg', F', by rw [← hfr]; exact hs', fun x hx => ?_⟩
          rcases hF' x hx with hx | ⟨j, S2, hj, hS2, rfl⟩
          · rcases List.mem_cons.1 hx with rfl | hx
            · exact .inr ⟨0, S, by omega, rfl, rfl⟩
            · exact .inl hx
          · exact .inr ⟨j + 1, S2, by omega, by simpa using hS2, rfl⟩
      · have := h2; simp only [hfr] at this; simpa using this
      · rcases h3 x hx with hx | ⟨j, S2, hS2, rfl⟩
        · rcases List.mem_cons.1 hx with rfl | hx
          · exact .inr ⟨0, S, rfl, rfl⟩
          · exact .inl hx
        · exact .inr ⟨j + 1, S2, by simpa using hS2, rfl⟩

/-- What the look at the region gives. -/
structure Fine (ops : List Oper) (k : Nat) : Prop where
  le : k ≤ ops.length
  back : ∀ (i : Nat) (o : Oper), ops[i]? = some o → ∀ j ∈ directs o, j < i
  anc : ∀ (i : Nat) (o : Oper), ops[i]? = some o → ∀ j ∈ (ancs ops).getD i [], j ∈ directs o ∨ ∃ m ∈ directs o, m < i ∧ j ∈ (ancs ops).getD m []
  sel : ∀ (i : Nat) (o : Oper), ops[i]? = some o → i < k → ∀ cs c, o.op ≠ .select cs c
  dist : ∀ (i j : Nat) (o o' : Oper) t, ops[i]? = some o → ops[j]? = some o' → i < k → j < k → o.dst = some t → o'.dst = some t → i = j
  look : ∀ (i j : Nat) (o o' : Oper) t, ops[i]? = some o → ops[j]? = some o' → i < k → j < k → i ≠ j → o'.dst = some t → t ∈ o.looksAt ops.toArray →
    if j < i then j ∈ (ancs ops).getD i [] else i ∈ (ancs ops).getD j []
  last : ∀ (i : Nat) (o : Oper), ops[i]? = some o → k ≤ i → ∀ j, j < i → j ∈ (ancs ops).getD i []
theorem fine_of_chk {ops : List Oper} {k : Nat} (h : chk ops k = true) : Fine ops k := by
  unfold chk at h
  simp only [Bool.and_eq_true, decide_eq_true_eq, List.all_eq_true, List.mem_range] at h
  obtain ⟨hk, h⟩ := h
  have H : ∀ (i : Nat) (o : Oper), ops[i]? = some o → _ := fun i o ho => by
    have hi : i < ops.length := (List.getElem?_eq_some_iff.1 ho).1
    have := h i hi
    rw [ho] at this
    exact this
  have dstD : ∀ (j : Nat) (o' : Oper), ops[j]? = some o' → (ops.map (·.dst)).getD j none = o'.dst := fun j o' ho => by
    simp [List.getD_eq_getElem?_getD, List.getElem?_map, ho]
  simp only [Bool.and_eq_true, List.all_eq_true, decide_eq_true_eq, Bool.or_eq_true, List.contains_iff_mem, List.any_eq_true] at H
  refine ⟨hk, fun i o ho => (H i o ho).1.1, fun i o ho j hj => ?_, fun i o ho hi cs c e => ?_, fun i j o o' t ho ho' hi hj hd hd' => ?_, fun i j o o' t ho ho' hi hj hne hd ht => ?_, fun i o ho hi j hj => ?_⟩
  · rcases (H i o ho).1.2 j hj with h1 | ⟨m, hm, h2, h3⟩
    · exact .inl h1
    · exact .inr ⟨m, hm, h2, h3⟩
  · have := (H i o ho).2
    rw [if_pos hi] at this
    simp [e] at this
  · have := (H i o ho).2
    rw [if_pos hi] at this
    simp only [Bool.and_eq_true, List.all_eq_true, List.mem_range] at this
    have := this.2 j hj
    rw [dstD j o' ho', hd', dstD i o ho, hd] at this
    by_cases e : j = i
    · exact e.symm
    · simp [e] at this
  · have := (H i o ho).2
    rw [if_pos hi] at this
    simp only [Bool.and_eq_true, List.all_eq_true, List.mem_range] at this
    have := this.2 j hj
    rw [dstD j o' ho', hd] at this
    have e : (j == i) = false := by simp; omega
    simp only [e, Bool.false_or, Bool.and_eq_true, Bool.or_eq_true, Bool.not_eq_true'] at this
    have := this.2
    have c : (o.looksAt ops.toArray).contains t = true := by simpa using ht
    rw [c] at this
    simp only [Bool.true_eq_false, false_or] at this
    split at this <;> rename_i hlt
    · rw [if_pos hlt]; simpa using this
    · rw [if_neg hlt]; simpa using this
  · have := (H i o ho).2
    rw [if_neg (by omega)] at this
    simp only [List.all_eq_true, List.mem_range] at this
    simpa using this j hj

theorem anc_listed {ops : List Oper} {k : Nat} (hf : Fine ops k) {L : Nat → Bool} (hd : ∀ (i : Nat) (o : Oper), ops[i]? = some o → L i = true → ∀ j ∈ directs o, L j = true) :
    ∀ (i : Nat) (o : Oper), ops[i]? = some o → (∀ j ∈ directs o, L j = true) → ∀ j ∈ (ancs ops).getD i [], L j = true := by
  intro i
  induction i using Nat.strongRecOn with
  | _ i ih =>
    intro o ho hl j hj
    rcases hf.anc i o ho j hj with h | ⟨m, hm, hlt, hjm⟩
    · exact hl j h
    · have hmn : m < ops.length := Nat.lt_trans hlt (List.getElem?_eq_some_iff.1 ho).1
      exact ih m hlt ops[m] (List.getElem?_eq_getElem hmn) (hd m _ (List.getElem?_eq_getElem hmn) (hl m hm)) j hjm
theorem cnt_upd (p q : Nat → Bool) (i : Nat) (hp : p i = true) (hq : q i = false) (h : ∀ j, j ≠ i → p j = q j) : ∀ n, i < n → (List.range n).countP p = (List.range n).countP q + 1 := by
  have same : ∀ n, n ≤ i → (List.range n).countP p = (List.range n).countP q := by
    intro n hn
    exact List.countP_congr fun j hj => by rw [h j (by have := List.mem_range.1 hj; omega)]
  intro n hn
  induction n with
  | zero => omega
  | succ n ih =>
    rw [List.range_succ, List.countP_append, List.countP_append]
    by_cases e : i = n
    · subst e; rw [same i (Nat.le_refl _)]; simp [hp, hq]
    · rw [ih (by omega), List.countP_singleton, List.countP_singleton, h n (fun e' => e e'.symm)]; omega
section
variable {P : Program} {opl : List Oper} {k : Nat} {Q : Exit → Act → World → Prop}
theorem listed_get {listed : Array Bool} {n j : Nat} (hs : listed.size = n) (hj : j < n) (b : Bool) : listed.getD j b = listed.getD j false := by
  simp [Array.getD, hs, hj]
theorem set_get {listed : Array Bool} {n i : Nat} (hs : listed.size = n) (hi : i < n) (j : Nat) : (listed.setIfInBounds i true).getD j false = upd (fun j => listed.getD j false) i true j := by
  unfold upd
  by_cases h : j = i
  · subst h; simp [Array.getD_eq_getD_getElem?, hs, hi]
  · simp [Array.getD_eq_getD_getElem?, h, Ne.symm h]
theorem wpAny_tail (hf : Fine opl k) : ∀ (f m : Nat) (listed : Array Bool) (a : Act) (w : World), opl.length - m ≤ f → k ≤ m → m ≤ opl.length → listed.size = opl.length → (∀ j, j < opl.length → listed.getD j false = decide (j < m)) →
    wpList P opl.toArray Q (opl.drop m) a w → wpAny P .any opl.toArray Q f listed a w := by
  intro f
  induction f with
  | zero =>
    intro m listed a w h1 h2 h3 hs hl hw
    have : m = opl.length := by omega
    subst this
    rw [List.drop_length] at hw
    refine ⟨?_, hw⟩
    rw [List.eq_nil_iff_forall_not_mem]
    intro j hj
    obtain ⟨h0, o, ho, _⟩ := mem_ready.1 hj
    have hj' : j < opl.length := by simpa using (Array.getElem?_eq_some_iff.1 ho).1
    rw [listed_get hs hj', hl j hj'] at h0
    simp at h0; omega
  | succ f ih =>
    intro m listed a w h1 h2 h3 hs hl hw
    by_cases hm : m = opl.length
    · subst hm
      rw [List.drop_length] at hw
      have hr : Region.ready .any opl.toArray listed = [] := by
        rw [List.eq_nil_iff_forall_not_mem]
        intro j hj
        obtain ⟨h0, o, ho, _⟩ := mem_ready.1 hj
        have hj' : j < opl.length := by simpa using (Array.getElem?_eq_some_iff.1 ho).1
        rw [listed_get hs hj', hl j hj'] at h0
        simp at h0; omega
      exact ⟨fun _ => hw, fun i hi => by rw [hr] at hi; simp at hi⟩
    · have hmn : m < opl.length := by omega
      have hom : opl[m]? = some opl[m] := List.getElem?_eq_getElem hmn
      have hrm : m ∈ Region.ready .any opl.toArray listed := by
        refine mem_ready.2 ⟨by rw [listed_get hs hmn, hl m hmn]; simp, opl[m], by simp, fun e he hb => ?_⟩
        have : e.on < m := hf.back m _ hom e.on (by unfold directs; exact List.mem_map.2 ⟨e, List.mem_filter.2 ⟨by simpa using he, hb⟩, rfl⟩)
        rw [hl e.on (by omega)]; simpa using this
      refine ⟨fun h => by rw [h] at hrm; simp at hrm, fun i hi => ?_⟩
      obtain ⟨h0, o, ho, hdir⟩ := mem_ready.1 hi
      have hin : i < opl.length := by simpa using (Array.getElem?_eq_some_iff.1 ho).1
      have ho' : opl[i]? = some o := by simpa using ho
      have him : i = m := by
        rw [listed_get hs hin, hl i hin] at h0
        have hge : m ≤ i := by simpa using h0
        by_cases e : i = m
        · exact e
        · exfalso
          have := anc_listed hf (L := fun j => listed.getD j false) (fun i' o'' ho'' hl' j hj => by
            have hi' : i' < opl.length := (List.getElem?_eq_some_iff.1 ho'').1
            have hb := hf.back i' o'' ho'' j hj
            have hl2 := hl i' hi'
            simp only [hl2] at hl'
            show listed.getD j false = true
            rw [hl j (by omega)]
            simp at hl' ⊢; omega) i o ho' (fun j hj => by
              unfold directs at hj
              obtain ⟨e', he', rfl⟩ := List.mem_map.1 hj
              obtain ⟨he1, he2⟩ := List.mem_filter.1 he'
              exact hdir e' (by simpa using he1) he2) m (hf.last i o ho' (by omega) m (by omega))
          have this : listed.getD m false = true := this
          rw [hl m hmn] at this
          simp at this
      subst him
      have e : opl.drop i = o :: opl.drop (i + 1) := by
        rw [List.drop_eq_getElem_cons hin]
        have : opl[i] = o := by have := List.getElem?_eq_getElem hin; rw [ho'] at this; exact (Option.some.inj this).symm
        rw [this]
      rw [e] at hw
      have hstep : wpOp P opl.toArray Q i (wpList P opl.toArray Q (opl.drop (i + 1))) a w := by
        unfold wpOp
        rw [ho]
        exact hw
      refine wpOp_mono (fun a' w' h' => ih (i + 1) _ a' w' (by omega) (by omega) (by omega) (by simpa using hs) (fun j hj => ?_) h') hstep
      rw [set_get hs hin]
      unfold upd
      by_cases ej : j = i
      · subst ej; simp
      · simp only [ej, if_false]; rw [hl j hj]; simp; omega

theorem wpAny_head (hf : Fine opl k) {Ss : List Spec} (hlen : Ss.length = k) {w0 : World} {a0 : Act} (hch : Chain P opl.toArray w0 Q Ss opl a0 []) :
    ∀ (f : Nat) (listed : Array Bool) (vals : Nat → Value) (w : World), (List.range k).countP (fun j => !listed.getD j false) + (opl.length - k) ≤ f → listed.size = opl.length →
      (∀ (i : Nat) (o : Oper), opl[i]? = some o → listed.getD i false = true → ∀ j ∈ directs o, listed.getD j false = true) → (∀ j, k ≤ j → listed.getD j false = false) →
      Below w0.heap.size w0 w → (∀ i (S : Spec), Ss[i]? = some S → S.pure (vals i)) → (∀ i (S : Spec), Ss[i]? = some S → listed.getD i false = true → S.fact (vals i) w) →
      wpAny P .any opl.toArray Q f listed (fr a0 (fun j => (opl[j]?).bind Oper.dst) (fun j => listed.getD j false) vals k) w := by
  intro f
  induction f with
  | zero =>
    intro listed vals w hcnt hs hdown hsuf hb hpure hfact
    have hall : ∀ j, j < k → listed.getD j false = true := by
      intro j hj
      have h0 : (List.range k).countP (fun j => !listed.getD j false) = 0 := by omega
      have := List.countP_eq_zero.1 h0 j (List.mem_range.2 hj)
      simpa using this
    obtain ⟨_, F', hfin, hF'⟩ := Chain.steps Ss opl a0 [] hch vals hpure
    refine wpAny_tail hf 0 k listed _ w (by omega) (Nat.le_refl _) hf.le hs (fun j hj => ?_) ?_
    · by_cases h : j < k
      · rw [hall j h]; simp [h]
      · rw [hsuf j (by omega)]; simp [h]
    · rw [hlen] at hfin
      have e : fr a0 (fun j => (opl[j]?).bind Oper.dst) (fun j => listed.getD j false) vals k = fr a0 (fun j => (opl[j]?).bind Oper.dst) (fun _ => true) vals k := by
        have : ∀ m, m ≤ k → fr a0 (fun j => (opl[j]?).bind Oper.dst) (fun j => listed.getD j false) vals m = fr a0 (fun j => (opl[j]?).bind Oper.dst) (fun _ => true) vals m := by
          intro m hm
          induction m with
          | zero => rfl
          | succ m ihm => rw [fr, fr, ihm (by omega), hall m (by omega)]
        exact this k (Nat.le_refl _)
      rw [e]
      refine hfin w hb fun x hx => ?_
      rcases hF' x hx with h | ⟨j, S, hS, rfl⟩
      · simp at h
      · exact hfact j S hS (hall j (by rw [← hlen]; exact (List.getElem?_eq_some_iff.1 hS).1))
  | succ f ih =>
    intro listed vals w hcnt hs hdown hsuf hb hpure hfact
    obtain ⟨hst, F', hfin, hF'⟩ := Chain.steps Ss opl a0 [] hch vals hpure
    by_cases hall : ∀ j, j < k → listed.getD j false = true
    · refine wpAny_tail hf (f + 1) k listed _ w (by omega) (Nat.le_refl _) hf.le hs (fun j hj => ?_) ?_
      · by_cases h : j < k
        · rw [hall j h]; simp [h]
        · rw [hsuf j (by omega)]; simp [h]
      · rw [hlen] at hfin
        have e : fr a0 (fun j => (opl[j]?).bind Oper.dst) (fun j => listed.getD j false) vals k = fr a0 (fun j => (opl[j]?).bind Oper.dst) (fun _ => true) vals k := by
          have : ∀ m, m ≤ k → fr a0 (fun j => (opl[j]?).bind Oper.dst) (fun j => listed.getD j false) vals m = fr a0 (fun j => (opl[j]?).bind Oper.dst) (fun _ => true) vals m := by
            intro m hm
            induction m with
            | zero => rfl
            | succ m ihm => rw [fr, fr, ihm (by omega), hall m (by omega)]
          exact this k (Nat.le_refl _)
        rw [e]
        refine hfin w hb fun x hx => ?_
        rcases hF' x hx with h | ⟨j, S, hS, rfl⟩
        · simp at h
        · exact hfact j S hS (hall j (by rw [← hlen]; exact (List.getElem?_eq_some_iff.1 hS).1))
    · -- some operation of the head is not done
      have hex : ∃ i, i < k ∧ listed.getD i false = false := by
        refine Classical.byContradiction fun hno => hall fun j hj => ?_
        cases e : listed.getD j false
        · exact absurd ⟨j, hj, e⟩ hno
        · rfl
      obtain ⟨i0, hi0, hl0⟩ := hex
      have hready : ∃ i, i ∈ Region.ready .any opl.toArray listed := by
        have key : ∀ m, m < k → listed.getD m false = false → ∃ i, i ∈ Region.ready .any opl.toArray listed := by
          intro m
          induction m using Nat.strongRecOn with
          | _ m ihm =>
            intro hm hlm
            have hmn : m < opl.length := Nat.lt_of_lt_of_le hm hf.le
            have hom : opl[m]? = some opl[m] := List.getElem?_eq_getElem hmn
            by_cases hd : ∀ j ∈ directs opl[m], listed.getD j false = true
            · exact ⟨m, mem_ready.2 ⟨by rw [listed_get hs hmn, hlm], opl[m], by simp, fun e he hbb => hd e.on (by unfold directs; exact List.mem_map.2 ⟨e, List.mem_filter.2 ⟨by simpa using he, hbb⟩, rfl⟩)⟩⟩
            · have : ∃ j, j ∈ directs opl[m] ∧ listed.getD j false = false := by
                refine Classical.byContradiction fun hno => hd fun j hj => ?_
                cases e : listed.getD j false
                · exact absurd ⟨j, hj, e⟩ hno
                · rfl
              obtain ⟨j, hj, hlj⟩ := this
              have hlt := hf.back m _ hom j hj
              exact ihm j hlt (by omega) hlj
        exact key i0 hi0 hl0
      refine ⟨fun h => by obtain ⟨i, hi⟩ := hready; rw [h] at hi; simp at hi, fun i hi => ?_⟩
      obtain ⟨h0, o, ho, hdir⟩ := mem_ready.1 hi
      have hin : i < opl.length := by simpa using (Array.getElem?_eq_some_iff.1 ho).1
      have ho' : opl[i]? = some o := by simpa using ho
      have hli : listed.getD i false = false := by rw [← listed_get hs hin true]; exact h0
      have hdl : ∀ j ∈ directs o, listed.getD j false = true := fun j hj => by
        unfold directs at hj
        obtain ⟨e', he', rfl⟩ := List.mem_map.1 hj
        obtain ⟨he1, he2⟩ := List.mem_filter.1 he'
        exact hdir e' (by simpa using he1) he2
      have hanc := anc_listed hf (L := fun j => listed.getD j false) hdown i o ho' hdl
      have hik : i < k := by
        refine Classical.byContradiction fun hge => ?_
        have := hanc i0 (hf.last i o ho' (by omega) i0 (by omega))
        have this : listed.getD i0 false = true := this
        rw [hl0] at this; exact absurd this (by simp)
      have hiS : i < Ss.length := by rw [hlen]; exact hik
      obtain ⟨o2, ho2, hgood, F2, hstep, hF2⟩ := hst i Ss[i] (List.getElem?_eq_getElem hiS)
      have : o2 = o := by rw [ho'] at ho2; exact (Option.some.inj ho2).symm
      subst this
      have hdst : ∀ (j : Nat) (o'' : Oper), opl[j]? = some o'' → (opl[j]?).bind Oper.dst = o''.dst := fun j o'' h => by rw [h]; rfl
      have huniq : ∀ t j j', j < k → j' < k → (opl[j]?).bind Oper.dst = some t → (opl[j']?).bind Oper.dst = some t → j = j' := by
        intro t j j' hj hj' h h'
        have hjn : j < opl.length := Nat.lt_of_lt_of_le hj hf.le
        have hjn' : j' < opl.length := Nat.lt_of_lt_of_le hj' hf.le
        have e1 := List.getElem?_eq_getElem hjn
        have e2 := List.getElem?_eq_getElem hjn'
        rw [e1] at h; rw [e2] at h'
        exact hf.dist j j' _ _ t e1 e2 hj hj' h h'
      have hagree : ∀ t, t ∈ o2.looksAt opl.toArray → (fr a0 (fun j => (opl[j]?).bind Oper.dst) (fun j => listed.getD j false) vals k).tmps[t]? = (fr a0 (fun j => (opl[j]?).bind Oper.dst) (fun _ => true) vals i).tmps[t]? := by
        intro t ht
        by_cases hj : ∃ j, j < k ∧ (opl[j]?).bind Oper.dst = some t
        · obtain ⟨j, hj, hd⟩ := hj
          have hjn : j < opl.length := Nat.lt_of_lt_of_le hj hf.le
          have e1 := List.getElem?_eq_getElem hjn
          have hd' : opl[j].dst = some t := by rw [e1] at hd; exact hd
          by_cases hji : j = i
          · subst hji
            rw [fr_miss k (fun j' hj' h => ?_), fr_miss j (fun j' hj' h => ?_)]
            · exact absurd (huniq t j' j (by omega) hj h hd) (by omega)
            · rw [huniq t j' j hj' hj h hd]; exact hli
          · have hlook := hf.look i j o2 _ t ho' e1 hik hj (fun e => hji e.symm) hd' ht
            by_cases hlt : j < i
            · rw [if_pos hlt] at hlook
              have hlj : listed.getD j false = true := hanc j hlook
              rw [fr_hit k hj hlj hd (fun j' hj' h => huniq t j' j hj' hj h hd), fr_hit i hlt rfl hd (fun j' hj' h => huniq t j' j (by omega) hj h hd)]
            · rw [if_neg hlt] at hlook
              have hlj : listed.getD j false = false := by
                cases e : listed.getD j false
                · rfl
                · have := anc_listed hf (L := fun j => listed.getD j false) hdown j _ e1 (hdown j _ e1 e) i hlook
                  have this : listed.getD i false = true := this
                  rw [hli] at this; exact absurd this (by simp)
              rw [fr_miss k (fun j' hj' h => ?_), fr_miss i (fun j' hj' h => ?_)]
              · exact absurd (huniq t j' j (by omega) hj h hd) (by omega)
              · rw [huniq t j' j hj' hj h hd]; exact hlj
        · rw [fr_miss k (fun j' hj' h => absurd ⟨j', hj', h⟩ hj), fr_miss i (fun j' hj' h => absurd ⟨j', by omega, h⟩ hj)]
      have hfacts : ∀ x ∈ F2, (∃ t, x.1 = some t ∧ t ∈ o2.looksAt opl.toArray) → x.2.2.fact x.2.1 w := by
        intro x hx ⟨t, hxt, ht⟩
        rcases hF2 x hx with h | ⟨j, S', hj, hS', rfl⟩
        · simp at h
        · have hjk : j < k := by omega
          have hjn : j < opl.length := Nat.lt_of_lt_of_le hjk hf.le
          have e1 := List.getElem?_eq_getElem hjn
          have hd' : opl[j].dst = some t := by simp only [e1] at hxt; exact hxt
          have hlook := hf.look i j o2 _ t ho' e1 hik hjk (by omega) hd' ht
          rw [if_pos hj] at hlook
          exact hfact j S' hS' (hanc j hlook)
      have hst1 := hstep w hb hfacts
      -- what holds behind it
      have next : ∀ (v : Value) (w' : World), Below w.heap.size w w' → Ss[i].pure v → Ss[i].fact v w' →
          wpAny P .any opl.toArray Q f (listed.setIfInBounds i true) ((fr a0 (fun j => (opl[j]?).bind Oper.dst) (fun j => listed.getD j false) vals k).put o2.dst v) w' := by
        intro v w' hbw hp hft
        have e : (fr a0 (fun j => (opl[j]?).bind Oper.dst) (fun j => listed.getD j false) vals k).put o2.dst v =
            fr a0 (fun j => (opl[j]?).bind Oper.dst) (fun j => (listed.setIfInBounds i true).getD j false) (upd vals i v) k := by
          have e1 : (fun j => (listed.setIfInBounds i true).getD j false) = upd (fun j => listed.getD j false) i true := funext fun j => set_get hs hin j
          rw [e1, fr_upd hik hli huniq, hdst i o2 ho']
        rw [e]
        have hset := fun j => set_get (i := i) hs hin j
        refine ih (listed.setIfInBounds i true) (upd vals i v) w' ?_ (by simpa using hs) ?_ ?_ ((hb.trans (hbw.mono hb.size))) ?_ ?_
        · have := cnt_upd (fun j => !listed.getD j false) (fun j => !(listed.setIfInBounds i true).getD j false) i (by simp [hli]) (by simp only [hset]; simp [upd]) (fun j hj => by simp only [hset]; simp [upd, hj]) k hik
          omega
        · intro i' o'' ho'' hl' j hj
          rw [hset] at hl' ⊢
          unfold upd at hl' ⊢
          by_cases ei : i' = i
          · subst ei
            have : o'' = o2 := by rw [ho'] at ho''; exact (Option.some.inj ho'').symm
            subst this
            split
            · rfl
            · exact hdl j hj
          · simp only [ei, if_false] at hl'
            split
            · rfl
            · exact hdown i' o'' ho'' hl' j hj
        · intro j hj
          rw [hset]; unfold upd
          rw [if_neg (by omega)]; exact hsuf j hj
        · intro j S hS
          unfold upd
          split
          · rename_i ej
            subst ej
            have : S = Ss[j] := by rw [List.getElem?_eq_getElem hiS] at hS; exact (Option.some.inj hS).symm
            rw [this]; exact hp
          · exact hpure j S hS
        · intro j S hS hlj
          rw [hset] at hlj
          unfold upd at hlj ⊢
          by_cases ej : j = i
          · subst ej
            rw [if_pos rfl]
            have : S = Ss[j] := by rw [List.getElem?_eq_getElem hiS] at hS; exact (Option.some.inj hS).symm
            rw [this]; exact hft
          · rw [if_neg ej] at hlj ⊢
            obtain ⟨_, _, hgj, _⟩ := hst j S hS
            exact hgj.2 _ _ _ hbw (hfact j S hS hlj)
      unfold wpOp
      rw [ho]
      simp only
      rw [wanted_eq hagree]
      split at hst1 <;> rename_i hw
      · rw [if_pos hw]
        refine .inl ?_
        unfold Oper.wp at hst1 ⊢
        rw [exec_eq (hf.sel i o2 ho' hik) hagree]
        refine upon_turn hst1 fun v w' hG => ?_
        obtain ⟨v', hvv, hp, hft⟩ := hG.2
        rw [put_same hvv (by rw [fr_size, fr_size])]
        exact next v' w' hG.1 hp hft
      · rw [if_neg hw]
        exact next undef w (Below.refl _ _) hst1.1 hst1.2

/-- THE RULE: a region that draws its order, walked once. -/
theorem Chain.inh {ops : Array Oper} {w0 : World} : ∀ (Ss : List Spec) (rest : List Oper) (a : Act) (F : Given), Chain P ops w0 Q Ss rest a F → ∀ S ∈ Ss, ∃ v, S.pure v
  | [], _, _, _, _, S, h => by simp at h
  | S0 :: Ss, [], _, _, hc, _, _ => hc.elim
  | S0 :: Ss, o :: rest, a, F, hc, S, h => by
    obtain ⟨hg, _, hk⟩ := hc
    rcases List.mem_cons.1 h with rfl | h
    · exact hg.1
    · obtain ⟨v, hv⟩ := hg.1
      exact Chain.inh Ss rest _ _ (hk v hv) S h
theorem region_chain {id : Nat} (hm : P.follows .mixedOrders = true) (k : Nat) (Ss : List Spec) (hk : Ss.length = k) (hc : chk opl k = true) {a : Act} {w : World}
    (h : Chain P opl.toArray w.drew Q Ss opl a []) : (Code.region id opl.toArray true).wp P Q a w := by
  subst hk
  have hf := fine_of_chk hc
  have hp := Chain.inh _ _ _ _ h
  refine wp_region_any hm ?_
  have hv : ∃ vals : Nat → Value, ∀ i (S : Spec), Ss[i]? = some S → S.pure (vals i) := by
    refine ⟨fun i => if h : i < Ss.length then Classical.choose (hp Ss[i] (List.getElem_mem h)) else undef, fun i S hS => ?_⟩
    obtain ⟨hi, rfl⟩ := List.getElem?_eq_some_iff.1 hS
    simp only [hi, dif_pos]
    exact Classical.choose_spec (hp Ss[i] (List.getElem_mem hi))
  obtain ⟨vals, hvals⟩ := hv
  have z : ∀ j, (Array.replicate opl.toArray.size false).getD j false = false := fun j => by
    simp [Array.getD_eq_getD_getElem?, Array.getElem?_replicate]; split <;> rfl
  have := wpAny_head hf rfl h opl.toArray.size (Array.replicate opl.toArray.size false) vals w.drew ?_ (by simp) (fun i o _ hl => by rw [z] at hl; simp at hl) (fun j _ => z j) (Below.refl _ _) hvals (fun i S _ hl => by rw [z] at hl; simp at hl)
  · have e : fr a (fun j => (opl[j]?).bind Oper.dst) (fun j => (Array.replicate opl.toArray.size false).getD j false) vals Ss.length = a := by
      have : ∀ m, fr a (fun j => (opl[j]?).bind Oper.dst) (fun j => (Array.replicate opl.toArray.size false).getD j false) vals m = a := by
        intro m
        induction m with
        | zero => rfl
        | succ m ihm => rw [fr, z, ihm]; rfl
      exact this _
    rw [e] at this
    exact this
  · have h1 : (List.range Ss.length).countP (fun j => !(Array.replicate opl.toArray.size false).getD j false) ≤ (List.range Ss.length).length := List.countP_le_length
    have h2 := hf.le
    simp at h1 ⊢
    omega
end
end
end Go.Proofs.Ytefghbdecnbpjaa
