/- Joined: XLD, XTEnc, XTData, XTWaitP, XTOkW, XTClones, XTPlain, XTCases, XTWaits, XTFirst, XTFirstR, XTStab. -/
import Derived.Test.YtphcebioiipdpaaKPc
import Derived.Test.YtphcebioiipdpaaRows
import Derived.Deep.Slices
import Derived.SizedLaws
import Derived.Below
import Derived.Carry
import Derived.ChangeSame
import Derived.Handed
import Derived.JoinedOf
import Derived.ProofKit
import Derived.OpenShut
import Derived.JoinedCond
import Derived.Deep.CondSized
import Derived.Lib.SmallJoins
import Derived.Test.YtphcebioiipdpaaKPd
import Derived.Test.YtphcebioiipdpaaKPa
namespace Go.Proofs.Ytphcebioiipdpaa
set_option linter.unusedVariables false
set_option linter.unusedSimpArgs false
set_option linter.unnecessarySimpa false
open Go.RowKit Go.ChangeShapes Go.WideShapes
def Opens {H : Type} (enc : TypeId × Value → H) (P : Program) (w : World) (t : TypeId) {α : Type} (f : α → List Tr) (s : α → Prop) (bk : α → Nat) : Prop :=
  ∀ (n : Nat) (cs : List Value) (x : DataW H × List MemPlace), DataW.trod enc P w 0 (fun _ => true) true n t cs = some x →
    ∃ a, cs.length = (f a).length ∧ ((∀ m ∈ x.1.weights P t, m ≤ reachBytes) → s a) ∧ bk a ≤ Rows.uptoBulk x.1 ∧ ∀ (j : Nat) tr u, (f a)[j]? = some tr → cs[j]? = some u → Frz w (fun b => b < w.heap.size) tr u
theorem Opens.int {H : Type} {enc : TypeId × Value → H} {P : Program} {w : World} {t : TypeId} {k : IntKind} (ht : P.underlying t = some (.int k)) : Opens enc P w t (fun x : Int => [.v (.int k x)]) (fun x => (Lit.int k x).wf = true) (fun _ => 1) := by
  intro n cs x h
  obtain ⟨a, rfl, rfl, hw⟩ := DataW.trod_int ht h
  refine ⟨a, rfl, fun _ => hw, Nat.le_refl _, fun j tr u hj hu => ?_⟩
  cases j with
  | zero => simp at hj hu; subst hj hu; exact .v rfl
  | succ j => simp at hj
theorem Opens.bool {H : Type} {enc : TypeId × Value → H} {P : Program} {w : World} {t : TypeId} (ht : P.underlying t = some .bool) : Opens enc P w t (fun x : Bool => [.v (.bool x)]) (fun _ => True) (fun _ => 1) := by
  intro n cs x h
  obtain ⟨a, rfl, rfl⟩ := DataW.trod_bool ht h
  refine ⟨a, rfl, fun _ => trivial, Nat.le_refl _, fun j tr u hj hu => ?_⟩
  cases j with
  | zero => simp at hj hu; subst hj hu; exact .v rfl
  | succ j => simp at hj
theorem Opens.map {H : Type} {enc : TypeId × Value → H} {P : Program} {w : World} {t : TypeId} {α β : Type} {f : α → List Tr} {s : α → Prop} {bk : α → Nat} (h : Opens enc P w t f s bk) (e : α → β) {f' : β → List Tr} {s' : β → Prop} {bk' : β → Nat} (hf : ∀ a, f' (e a) = f a) (hs : ∀ a, s a → s' (e a)) (hb : ∀ a, bk' (e a) ≤ bk a) : Opens enc P w t f' s' bk' := by
  intro n cs x hx
  obtain ⟨a, h1, h2, h3, h4⟩ := h n cs x hx
  exact ⟨e a, by rw [hf]; exact h1, fun hw => hs _ (h2 hw), Nat.le_trans (hb a) h3, by rw [hf]; exact h4⟩
theorem weightsAll_mem {H : Type} {P : Program} {e : TypeId} {d : DataW H} {m : Nat} : ∀ {l : List (DataW H)}, d ∈ l → m ∈ d.weights P e → m ∈ DataW.weightsAll P e l
  | x :: l, h, hm => by
    simp only [DataW.weightsAll, List.mem_append]
    rcases List.mem_cons.1 h with h | h
    · subst h; exact .inl hm
    · exact .inr (weightsAll_mem h hm)
theorem bulkAll_sum {H : Type} {α : Type} {bk : α → Nat} : ∀ {l : List (DataW H)} {m : List α}, m.length = l.length → (∀ (i : Nat) (a : α) (y : DataW H), m[i]? = some a → l[i]? = some y → bk a ≤ Rows.uptoBulk y) → (m.map bk).sum ≤ Rows.uptoBulkAll l
  | [], [], _, _ => by simp [Rows.uptoBulkAll]
  | [], _ :: _, h, _ => by simp at h
  | _ :: _, [], h, _ => by simp at h
  | y :: l, a :: m, hl, h => by
    have h0 := h 0 a y rfl rfl
    have h1 := bulkAll_sum (l := l) (m := m) (by simpa using hl) (fun i a y h1 h2 => h (i + 1) a y (by simpa using h1) (by simpa using h2))
    simp only [Rows.uptoBulkAll, List.map_cons, List.sum_cons]
    omega
theorem Opens.slice {H : Type} {enc : TypeId × Value → H} {P : Program} {w : World} {t e : TypeId} {α : Type} [Inhabited α] {f : α → List Tr} {q : α → Prop} {bk : α → Nat} {s by_ : Nat} (ht : P.underlying t = some (.slice e)) (hs : P.cellsOf e = s) (hy : P.bytesOf e = by_) (hf : ∀ a, (f a).length = s) (h : Opens enc P w e f q bk) :
    Opens enc P w t (fun l : List α => [.lst (l.map f)]) (fun l => l.length * by_ ≤ reachBytes ∧ ∀ a ∈ l, q a) (fun l => (l.map bk).sum + 1) := by
  intro n cs x hx
  rcases Go.Deep.open_slice ht hx with ⟨rfl, rfl⟩ | ⟨a, len, cap, m, n', D, Pl, rfl, _, hl, hm, hmm, rfl, hel⟩
  · refine ⟨[], rfl, fun _ => ⟨by simp, by simp⟩, by simp [Rows.uptoBulk], fun j tr u hj hu => ?_⟩
    cases j with
    | zero => simp at hj hu; subst hj hu; exact .lst (size := s) (xs := []) ⟨Nat.le_refl _, Nat.zero_le _, fun _ => ⟨rfl, rfl⟩, by simp, fun j u hj => by simp at hj⟩ (fun h => absurd rfl h) rfl (fun _ h => by simp at h) (fun i cs j x u hi => by simp at hi)
    | succ j => simp at hj
  · have hmm' : m = cap := by simpa using hmm
    subst hmm'
    obtain ⟨A, hA⟩ := Go.Deep.choose_lt (α := α) (n := m) (p := fun i b => ∃ cs', w.cells? 0 (a.add (i * P.cellsOf e)) (P.cellsOf e) = some cs' ∧ cs'.length = (f b).length ∧ (((∀ m ∈ (D i).weights P e, m ≤ reachBytes) → q b) ∧ bk b ≤ Rows.uptoBulk (D i)) ∧ ∀ (j : Nat) tr u, (f b)[j]? = some tr → cs'[j]? = some u → Frz w (fun b => b < w.heap.size) tr u) (fun i hi => by
      obtain ⟨cs', h1, h2⟩ := hel i hi
      obtain ⟨b, q1, q2, q2', q3⟩ := h _ _ _ h2
      exact ⟨b, cs', h1, q1, ⟨q2, q2'⟩, q3⟩)
    have cell : ∀ i j, i < len → j < s → ∃ u, w.cell? (a.add (i * s + j)) = some u ∧ ∀ tr, (f (A i))[j]? = some tr → Frz w (fun b => b < w.heap.size) tr u := fun i j hi hj => by
      obtain ⟨cs', h1, h2, _, h3⟩ := hA i (by omega)
      rw [hs] at h1
      obtain ⟨_, c2, c3⟩ := World.cells?_some h1
      have hlt : j < cs'.length := by omega
      refine ⟨cs'[j], ?_, fun tr htr => h3 j tr _ htr (List.getElem?_eq_getElem hlt)⟩
      rw [← Go.Deep.add_add, c3 j (by omega), List.getElem?_eq_getElem hlt]
    let xs : List Value := (List.range (len * s)).map fun q => (w.cell? (a.add q)).getD (.bool false)
    have hxl : xs.length = len * s := by simp [xs]
    have hget : ∀ i j, i < len → j < s → ∃ u, xs[i * s + j]? = some u ∧ w.cell? (a.add (i * s + j)) = some u ∧ ∀ tr, (f (A i))[j]? = some tr → Frz w (fun b => b < w.heap.size) tr u := fun i j hi hj => by
      obtain ⟨u, h1, h2⟩ := cell i j hi hj
      refine ⟨u, ?_, h1, h2⟩
      simp only [xs, List.getElem?_map, List.getElem?_range (idx_lt hi hj), Option.map_some, h1, Option.getD_some]
    have hdiv : ∀ q, q < len * s → ∃ i j, i < len ∧ j < s ∧ q = i * s + j := fun q hq => by
      have hs0 : 0 < s := by
        rcases Nat.eq_zero_or_pos s with e | e
        · rw [e] at hq; omega
        · exact e
      exact ⟨q / s, q % s, (Nat.div_lt_iff_lt_mul hs0).2 hq, Nat.mod_lt _ hs0, by rw [Nat.mul_comm]; exact (Nat.div_add_mod q s).symm⟩
    have hlr : ((List.range len).map A).length = len := by simp
    refine ⟨(List.range len).map A, rfl, fun hw => ⟨?_, fun b hb => ?_⟩, ?_, fun j tr u hj hu => ?_⟩
    · have := hw ((((List.range len).map D).length + ((List.range (m - len)).map fun j => D (len + j)).length) * P.bytesOf e) (by simp only [DataW.weights, ht]; exact List.mem_cons_self ..)
      simp only [List.length_map, List.length_range, hy] at this ⊢
      exact Nat.le_trans (Nat.mul_le_mul_right _ (Nat.le_add_right _ _)) this
    · obtain ⟨i, hi, rfl⟩ := List.mem_map.1 hb
      have hi' : i < len := by simpa using hi
      obtain ⟨_, _, _, qq, _⟩ := hA i (by omega)
      refine qq.1 fun k hk => hw k ?_
      simp only [DataW.weights, ht]
      exact List.mem_cons_of_mem _ (List.mem_append_left _ (weightsAll_mem (List.mem_map.2 ⟨i, hi, rfl⟩) hk))
    · have := bulkAll_sum (l := (List.range len).map D) (m := (List.range len).map A) (bk := bk) (by simp) (fun i a y h1 h2 => by
        have hi : i < len := by have := get_lt h1; simpa using this
        simp only [List.getElem?_map, List.getElem?_range hi, Option.map_some, Option.some.injEq] at h1 h2
        subst h1 h2
        obtain ⟨_, _, _, qq, _⟩ := hA i (by omega)
        exact qq.2)
      simp only [Rows.uptoBulk]
      omega
    · cases j with
      | succ j => simp at hj
      | zero =>
        simp at hj hu
        subst hj hu
        refine .lst (size := s) (xs := xs) ⟨hl, hm, fun h => (by cases h), hxl, fun q u hq => ?_⟩ (fun hne => ?_) (by simp) (fun cs hcs => ?_) (fun i cs j x u hi hj hu => ?_)
        · have hq' := get_lt hq
          rw [hxl] at hq'
          obtain ⟨i, j, hi, hj, rfl⟩ := hdiv q hq'
          obtain ⟨u', h1, h2, _⟩ := hget i j hi hj
          rw [h1] at hq; cases hq
          exact h2
        · have hpos : 0 < xs.length := List.length_pos_iff.2 hne
          rw [hxl] at hpos
          obtain ⟨i, j, hi, hj, he⟩ := hdiv 0 hpos
          obtain ⟨u', _, h2, _⟩ := hget i j hi hj
          have := World.block_lt_of_cell? w _ h2
          rw [add_block] at this
          exact this
        · simp at hcs
          obtain ⟨i, _, rfl⟩ := hcs
          exact hf _
        · have hi' : i < len := by have := get_lt hi; simpa using this
          simp only [List.getElem?_map, List.map_map, List.getElem?_range hi', Option.map_some, Option.some.injEq, Function.comp] at hi
          subst hi
          have hj' := get_lt hj
          rw [hf] at hj'
          obtain ⟨u', h1, _, h3⟩ := hget i j hi' hj'
          rw [h1] at hu; cases hu
          exact h3 x hj
def OpensF {H : Type} (enc : TypeId × Value → H) (P : Program) (w : World) (fs : List Field) (off : Nat) {α : Type} (f : α → List Tr) (s : α → Prop) (bk : α → Nat) : Prop :=
  ∀ (n : Nat) (cs : List Value) (ys : List (DataW H × List MemPlace)), ys.length = fs.length → (∀ (i : Nat) (fd : Field), fs[i]? = some fd → DataW.trod enc P w 0 (fun _ => true) true n fd.type ((cs.drop fd.offset).take (P.cellsOf fd.type)) = ys[i]?) →
    ∃ a, ((∀ m ∈ DataW.weightsEach P (fs.map (·.type)) (ys.map (·.1)), m ≤ reachBytes) → s a) ∧ bk a ≤ Rows.uptoBulkAll (ys.map (·.1)) ∧ ∀ (j : Nat) tr u, (f a)[j]? = some tr → cs[off + j]? = some u → Frz w (fun b => b < w.heap.size) tr u
theorem OpensF.nil {H : Type} {enc : TypeId × Value → H} {P : Program} {w : World} {off : Nat} : OpensF enc P w [] off (fun _ : Unit => []) (fun _ => True) (fun _ => 0) :=
  fun n cs ys _ _ => ⟨(), fun _ => trivial, Nat.zero_le _, fun j tr u hj => by simp at hj⟩
theorem OpensF.cons {H : Type} {enc : TypeId × Value → H} {P : Program} {w : World} {off s : Nat} {fd : Field} {fs : List Field} {α β : Type} {f : α → List Tr} {f' : β → List Tr} {q : α → Prop} {q' : β → Prop} {bk : α → Nat} {bk' : β → Nat} {t : TypeId}
    (htt : fd.type = t) (ho : fd.offset = off) (hs : P.cellsOf t = s) (hf : ∀ a, (f a).length = s) (h : Opens enc P w t f q bk) (k : OpensF enc P w fs (off + s) f' q' bk') :
    OpensF enc P w (fd :: fs) off (fun p : α × β => f p.1 ++ f' p.2) (fun p => q p.1 ∧ q' p.2) (fun p => bk p.1 + bk' p.2) := by
  subst htt
  intro n cs ys hl hy
  cases ys with
  | nil => simp at hl
  | cons y ys =>
    have h0 := hy 0 fd rfl
    obtain ⟨a, q1, q2, q2', q3⟩ := h _ _ _ h0
    obtain ⟨b, r2, r2', r3⟩ := k n cs ys (by simpa using hl) (fun i fd' h1 => by have := hy (i + 1) fd' (by simpa using h1); simpa using this)
    rw [hs, hf, ho, List.length_take, List.length_drop] at q1
    refine ⟨(a, b), fun hw => ⟨q2 fun m hm => hw m (by simp only [List.map_cons, DataW.weightsEach, List.mem_append]; exact .inl hm), r2 fun m hm => hw m (by simp only [List.map_cons, DataW.weightsEach, List.mem_append]; exact .inr hm)⟩, by simp only [List.map_cons, Rows.uptoBulkAll]; omega, fun j tr u hj hu => ?_⟩
    by_cases hjs : j < s
    · rw [List.getElem?_append_left (by rw [hf]; exact hjs)] at hj
      refine q3 j tr u hj ?_
      rw [hs, ho, List.getElem?_take, if_pos hjs, List.getElem?_drop]
      exact hu
    · rw [List.getElem?_append_right (by rw [hf]; omega), hf] at hj
      refine r3 (j - s) tr u hj ?_
      rw [← hu]; congr 1; omega
theorem Opens.struct {H : Type} {enc : TypeId × Value → H} {P : Program} {w : World} {t : TypeId} {fs : List Field} {n : Nat} {α : Type} {f : α → List Tr} {q : α → Prop} {bk : α → Nat} (ht : P.underlying t = some (.struct fs.toArray)) (hn : P.cellsOf t = n) (hf : ∀ a, (f a).length = n) (h : OpensF enc P w fs 0 f q bk) : Opens enc P w t f q bk := by
  intro m cs x hx
  obtain ⟨xs, m', rfl, rfl, h1, h2, h3⟩ := DataW.trod_struct ht hx
  obtain ⟨a, q1, q2, q3⟩ := h m' cs xs (by simpa using h2) (fun i fd hi => h3 i fd (by simpa using hi))
  refine ⟨a, by rw [hf, h1, hn], fun hw => q1 fun k hk => hw k ?_, ?_, fun j tr u hj hu => q3 j tr u hj (by simpa using hu)⟩
  · simp only [DataW.weights, ht]
    simpa using hk
  · simp only [Rows.uptoBulk]; omega

def toAV : Tr → AV
  | .v x => .t (.v x)
  | .lst els => .ln els
theorem val_toAV {Kn : Nat → Nat → Prop} {ρ : Rho} {w : World} {Z Y : Nat → Prop} (hy : ∀ b, Z b → Y b) {x : Tr} {v : Value} (h : Frz w Z x v) : Val Kn ρ w Z Y (toAV x) v := by
  cases x with
  | v x => exact .t h
  | lst els =>
    obtain ⟨a, c, size, xs, rfl, hr, hz, he⟩ := h.open
    exact .ln hr (fun hne => hy _ (hz hne)) rfl he
def argAV (agg : Bool) (l : List Tr) : AV := bif agg then .agg (l.map toAV) else match l with
  | [x] => toAV x
  | _ => .any
def isAgg (P : Program) (t : TypeId) : Option Bool := match P.underlying t with
  | some (.struct _) => some true
  | some (.int _) | some .bool | some .string | some (.slice _) => some false
  | _ => none
theorem isAgg_struct {P : Program} {t : TypeId} (h : isAgg P t = some true) : ∃ fs, P.underlying t = some (.struct fs) := by
  unfold isAgg at h
  split at h
  · rename_i fs ht; exact ⟨fs, ht⟩
  all_goals cases h
theorem isAgg_cell {P : Program} {t : TypeId} (h : isAgg P t = some false) {w : World} {r : Reach} {b0 : Nat} {v : Value} (hv : Value.okWide P w r b0 t v) : v.cells.toList = [v] := by
  unfold isAgg at h
  split at h
  · cases h
  · rename_i ht; obtain ⟨n, rfl⟩ := okWide_int ht hv; rfl
  · rename_i ht; obtain ⟨n, rfl⟩ := okWide_bool ht hv; rfl
  · rename_i ht; obtain ⟨n, rfl⟩ := okWide_string ht hv; rfl
  · rename_i ht; obtain ⟨a, l, c, rfl⟩ := okWide_slice ht hv; rfl
  · cases h
theorem Opens.arg {H : Type} {enc : TypeId × Value → H} {P : Program} {w : World} {t : TypeId} {α : Type} {f : α → List Tr} {s : α → Prop} {bk : α → Nat} (h : Opens enc P w t f s bk) {b : Bool} (hb : isAgg P t = some b) (h1 : b = false → ∀ a, (f a).length = 1)
    {r : Reach} {b0 : Nat} {v : Value} {d : DataW H} {ps : List MemPlace} (hv : Value.okWide P w r b0 t v) (hd : DataW.Trod enc P w 0 (fun _ => true) true t v d ps) :
    ∃ a, ((∀ m ∈ d.weights P t, m ≤ reachBytes) → s a) ∧ bk a ≤ Rows.uptoBulk d ∧ ∀ (Kn : Nat → Nat → Prop) (ρ : Rho), Val Kn ρ w (fun b => b < w.heap.size) (fun b => b < w.heap.size) (argAV b (f a)) v := by
  obtain ⟨fuel, hd⟩ := hd
  obtain ⟨a, q1, q2, q3, q4⟩ := h _ _ _ hd
  refine ⟨a, q2, q3, fun Kn ρ => ?_⟩
  cases b with
  | true =>
    obtain ⟨fs, ht⟩ := isAgg_struct hb
    obtain ⟨cs, rfl, hsz⟩ := okWide_struct ht hv
    have e : cs = cs.toList.toArray := by simp
    rw [e]
    simp only [Value.cells] at q1 q4
    refine .agg (by simpa using q1.symm) (fun u hu => ?_) (fun j x u hj hu => ?_)
    · obtain ⟨j, hj⟩ := List.getElem?_of_mem hu
      have hl := get_lt hj
      rw [q1] at hl
      exact (q4 j _ u (List.getElem?_eq_getElem hl) hj).one
    · simp only [List.getElem?_map, Option.map_eq_some_iff] at hj
      obtain ⟨y, hy, rfl⟩ := hj
      exact val_toAV (fun _ h => h) (q4 j y u hy hu)
  | false =>
    have hl := h1 rfl a
    match hfa : f a, hl with
    | [x], _ =>
      rw [hfa] at q1 q4
      show Val Kn ρ w _ _ (toAV x) v
      have hna := isAgg_cell hb hv
      rw [hna] at q4
      exact val_toAV (fun _ h => h) (q4 0 x v rfl rfl)
end Go.Proofs.Ytphcebioiipdpaa

namespace Go.Proofs.Ytphcebioiipdpaa
set_option linter.unusedVariables false
set_option linter.unusedSimpArgs false
set_option linter.unnecessarySimpa false
open Go.ChangeShapes Go.WideShapes Go.ChangeAt Go.RowKit

theorem trodAll_stays {H : Type} {enc : TypeId × Value → H} {P : Program} (hl : laidOutB P = true) {W W' : World} (hb : Below W.heap.size W W') {sp : Nat → Bool} :
    ∀ (ts : List TypeId) (vs : List Value) (ds : List (DataW H)) (ps : List MemPlace), (∀ t ∈ ts, P.readableRec t = true ∧ t < P.types.size) → DataW.TrodAll enc P W 0 (fun _ => true) true ts vs ds ps →
      (∀ x ∈ ps, x.block < W.heap.size) → (∀ x ∈ ps, sp x.block = true) → DataW.TrodAll enc P W' 0 sp true ts vs ds ps := by
  intro ts
  induction ts with
  | nil =>
    intro vs ds ps _ h _ _
    obtain ⟨rfl, rfl, rfl⟩ := trodAll_nil h
    exact rfl
  | cons t ts ih =>
    intro vs ds ps hr h hlt hsp
    obtain ⟨v, vs, d, ds, p, q, rfl, rfl, rfl, h1, h2⟩ := trodAll_cons h
    refine ⟨p, q, ?_, ih vs ds q (fun t ht => hr t (List.mem_cons_of_mem _ ht)) h2 (fun x hx => hlt x (List.mem_append_right _ hx)) (fun x hx => hsp x (List.mem_append_right _ hx)), rfl⟩
    exact WideElems.Trod_stays hl (hr t (List.mem_cons_self ..)).1 (hr t (List.mem_cons_self ..)).2 h1 (fun x hx => hb.same (hlt x (List.mem_append_left _ hx))) (fun x hx => hsp x (List.mem_append_left _ hx))

theorem law_post {H : Type} {enc : TypeId × Value → H} {P : Program} {f : Func} {s : ChangeSpec} {apart fresh handsOn again : Bool} {W W' : World} {args : Array Value} {ds gs : List (DataW H)} {before : List MemPlace} {tb : TypeId}
    (hl : laidOutB P = true) (hr : ∀ t ∈ f.params.toList, P.readableRec t = true ∧ t < P.types.size) (hres : f.resultTypes = #[tb]) (htb : P.underlying tb = some .bool) (hvars : s.vars = [])
    (hW : DataW.Whole enc P f.params.toList s.vars apart W args.toList ds gs before)
    (hfn : (s.fn H (ds ++ gs)).results = [.lit (.bool true)] ∧ (s.fn H (ds ++ gs)).args = ds ∧ (s.fn H (ds ++ gs)).vars = [])
    (hb : Below W.heap.size W W') : s.post enc P f apart fresh handsOn again W args (.bool true) W' := by
  have hlt : ∀ p ∈ before, p.block < W.heap.size := fun p hp => hW.lt p hp
  have hold : ∀ p ∈ before, (fun b => decide (b < W.heap.size)) p.block = true := fun p hp => by simpa using hlt p hp
  have hW' := hW
  obtain ⟨p, q, hA, hV, hps, hz, hn⟩ := hW
  rw [hvars] at hV
  obtain ⟨rfl, rfl⟩ := trodVars_none hV
  have hpb : before = p := by simpa using hps
  subst hpb
  have hres' : ∀ (b : Nat) (sp : Nat → Bool) (hd : Bool), DataW.TrodAll enc P W' b sp hd f.resultTypes.toList ((Value.bool true).resultList f.resultTypes.size) [.lit (.bool true)] [] := fun b sp hd => by
    rw [hres]
    exact trodAll_mk1 (shut_bool htb _)
  have hargs : ∀ sp : Nat → Bool, (∀ p ∈ before, sp p.block = true) → DataW.TrodAll enc P W' 0 sp true f.params.toList args.toList ds before := fun sp hsp => trodAll_stays hl hb _ _ _ _ hr hA hlt hsp
  have hvs : ∀ sp : Nat → Bool, DataW.TrodVars enc P W' sp s.vars [] [] := fun sp => by rw [hvars]; exact rfl
  refine ⟨ds, [], before, [], before, [], hW', ?_, ?_, ?_, World.keptBut_mono (fun p hp => ⟨hp, Or.inr (Or.inl hp)⟩) (hb.frame (· ∈ before)), fun _ => ?_⟩
  · rw [hfn.1]; exact hres' _ _ _
  · rw [hfn.2.1]; exact hargs _ hold
  · rw [hfn.2.2]; exact hvs _
  · refine ⟨ok_one hres rfl (okWide_bool_mk htb _), [.lit (.bool true)] ++ ds, [], [] ++ before ++ [], ⟨[] ++ before, [], trodAll_append (hargs _ (fun _ _ => rfl)) (hres' _ _ _), hvs _, rfl, ?_, ?_⟩, ?_⟩
    · intro b off hp
      have hin : MemPlace.cell b off ∈ before := by simpa using hp
      rw [hb.frozen (hlt _ hin)]
      exact hz b off hin
    · intro ha
      simpa using hn ha
    · intro p hp _
      simpa using hp
#print axioms law_post
end Go.Proofs.Ytphcebioiipdpaa

namespace Go.Proofs.Ytphcebioiipdpaa
set_option linter.unusedVariables false
set_option linter.unusedSimpArgs false
set_option linter.unnecessarySimpa false
open Go.RowKit Go.ChangeShapes Go.WideShapes Go.ChangeAt Go.Joins Go.Deep
theorem own : ownKnob Try.prog.godebug = none := by kernel_rfl
theorem laidOut : laidOutB Try.prog = true := by kernel_rfl
def oldEnv (W : World) : Env := { W := W, D := fun b => W.heap.size ≤ b, H := [], ρ := fun _ _ => ⟨none, 0, 0⟩, Z := fun b => b < W.heap.size, Y := fun b => b < W.heap.size, big := fun _ h => h, yd := fun b h1 h2 => by omega }
theorem Cd.law {P : Program} {f : FuncId} {args : List AV} (h : Cd P f args (.t (.v (.bool true))) []) {W : World} {vs : List Value} (hv : AVs (Val (Kn []) (oldEnv W).ρ W (oldEnv W).Z (oldEnv W).Y) args vs) :
    Calls P f vs.toArray W fun e W' => e = .returned (.bool true) ∧ Below W.heap.size W W' := by
  refine (h (oldEnv W) vs rfl ⟨fun i o hi => by simp [oldEnv] at hi, fun i j o o' b hi => by simp [oldEnv] at hi, fun i o b hi => by simp [oldEnv] at hi, fun b h => h, fun b h => h⟩ (fun i o b hi => by simp at hi) hv).mono ?_
  rintro en w' ⟨v, r, heap, ρ, Z, Y, rfl, ⟨rfl, rfl⟩, hok, hval⟩
  have e : v = .bool true := by
    cases hval with
    | t h => cases h; rfl
  subst e
  exact ⟨rfl, hok.os, hok.tape, hok.output, hok.size, fun k hk => hok.keep k (by simp only [oldEnv]; omega)⟩
theorem AVs.nil {R : AV → Value → Prop} : AVs R [] [] := ⟨rfl, fun j x u h => by simp at h⟩
theorem AVs.cons {R : AV → Value → Prop} {x : AV} {v : Value} {l : List AV} {us : List Value} (h : R x v) (k : AVs R l us) : AVs R (x :: l) (v :: us) := by
  refine ⟨by simp [k.len], fun j y u hj hu => ?_⟩
  cases j with
  | zero => simp at hj hu; subst hj hu; exact h
  | succ j => exact k.at_ j y u (by simpa using hj) (by simpa using hu)
theorem wt_of {H : Type} {P : Program} {ts us : List TypeId} {ds gs : List (DataW H)} (h : (DataW.weightsEach P (ts ++ us) (ds ++ gs)).all (· ≤ reachBytes) = true) {j : Nat} {t : TypeId} {d : DataW H} (ht : ts[j]? = some t) (hd : ds[j]? = some d) : ∀ m ∈ d.weights P t, m ≤ reachBytes := fun m hm => by
  have h1 : (ts ++ us)[j]? = some t := by rw [List.getElem?_append_left (get_lt ht)]; exact ht
  have h2 : (ds ++ gs)[j]? = some d := by rw [List.getElem?_append_left (get_lt hd)]; exact hd
  have := List.all_eq_true.1 h _ (DataW.weights_mem_each h1 h2 m hm)
  simpa using this
theorem i64_wf {x : Int} (h : (Lit.int .i64 x).wf = true) : -9223372036854775808 ≤ x ∧ x ≤ 9223372036854775807 := by have := bounds_i64 h; omega
inductive Wa : AV → AV → Prop
  | any (x : AV) : Wa x .any
  | refl (x : AV) : Wa x x
  | agg {l l' : List AV} (h1 : l.length = l'.length) (h : ∀ (j : Nat) x y, l[j]? = some x → l'[j]? = some y → Wa x y) : Wa (.agg l) (.agg l')
inductive WaL : List AV → List AV → Prop
  | nil : WaL [] []
  | cons {x y : AV} {l l' : List AV} (h : Wa x y) (k : WaL l l') : WaL (x :: l) (y :: l')
theorem WaL.get {l l' : List AV} (h : WaL l l') : l.length = l'.length ∧ ∀ (j : Nat) x y, l[j]? = some x → l'[j]? = some y → Wa x y := by
  induction h with
  | nil => exact ⟨rfl, fun j x y h => by simp at h⟩
  | @cons x y l l' h k ih =>
    refine ⟨by simp [ih.1], fun j a b ha hb => ?_⟩
    cases j with
    | zero => simp at ha hb; subst ha hb; exact h
    | succ j => exact ih.2 j a b (by simpa using ha) (by simpa using hb)
theorem Wa.aggL {l l' : List AV} (h : WaL l l') : Wa (.agg l) (.agg l') := .agg h.get.1 h.get.2
theorem Wa.val {Kn : Nat → Nat → Prop} {ρ : Rho} {w : World} {Z Y : Nat → Prop} {x y : AV} (h : Wa x y) : ∀ {v : Value}, Val Kn ρ w Z Y x v → Val Kn ρ w Z Y y v := by
  induction h with
  | any x => intro v _; exact .any v
  | refl x => intro v h; exact h
  | @agg l l' h1 h ih =>
    intro v hv
    cases hv with
    | @agg _ us e ho hu =>
      refine .agg (h1.symm.trans e) ho fun j y u hj hu' => ?_
      have hl := get_lt hj
      rw [← h1] at hl
      exact ih j _ y (List.getElem?_eq_getElem hl) hj (hu j _ u (List.getElem?_eq_getElem hl) hu')
theorem headD {α : Type} {l : List α} {x : α} (h : l.head? = some x) : ∃ r, l = x :: r := by
  cases l with
  | nil => cases h
  | cons y r => cases h; exact ⟨r, rfl⟩
theorem strip_cut (rest : List (List Char)) : stripLifts liftWords ("cut".toList :: rest) = ([], "cut".toList :: rest) := by
  simp [stripLifts, liftWords]
theorem mayEnter_cut {P : Program} (h : (behindMainWord (wordsSigns P.initOrder.toList)).head? = some "cut".toList) (h1 : P.laysLater = false) (h2 : P.bearsReflect = false) (h3 : P.doorFits [] = true) : P.mayEnter = true := by
  obtain ⟨rest, hr⟩ := headD h
  unfold Program.mayEnter
  rw [hr]
  simp only [strip_cut, h1, h2, h3]
  simp
theorem liftsFinal_cut {P : Program} (h : (behindMainWord (wordsSigns P.initOrder.toList)).head? = some "cut".toList) : P.liftsFinal = false := by
  obtain ⟨rest, hr⟩ := headD h
  unfold Program.liftsFinal Program.headLifts
  rw [hr]
  simp only [strip_cut]
  simp
theorem make_cut {P : Program} (h : (behindMainWord (wordsSigns P.initOrder.toList)).head? = some "cut".toList) : P.make = some .cut := by
  obtain ⟨rest, hr⟩ := headD h
  unfold Program.make
  rw [hr]
  simp
set_option maxRecDepth 100000 in
theorem cutHead : (behindMainWord (wordsSigns Try.prog.initOrder.toList)).head? = some "cut".toList := by
  have h := (congrArg String.toList (rfl : Try.prog.initOrder = String.ofList _)).trans String.toList_ofList
  rw [h]
  decide +kernel
theorem mayEnter_ok : Try.prog.mayEnter = true := mayEnter_cut cutHead (by kernel_rfl) (by kernel_rfl) (by kernel_rfl)
theorem liftsFinal_ok : Try.prog.liftsFinal = false := liftsFinal_cut cutHead
theorem make_ok : Try.prog.make = some .cut := make_cut cutHead
theorem and_mk {a b : Bool} (h : a = true) (k : b = true) : (a && b) = true := by simp [h, k]
end Go.Proofs.Ytphcebioiipdpaa


namespace Go.Proofs.Ytphcebioiipdpaa
set_option linter.unusedVariables false
set_option linter.unusedSimpArgs false
set_option linter.unnecessarySimpa false
open Go.RowKit
set_option maxHeartbeats 32000000
attribute [local irreducible] AL AW RG Fin C Cd Cio thenQ blockQ retQ
theorem mixed : Try.prog.follows .mixedOrders = true := by kernel_rfl
abbrev bo (b : Bool) : AV := .t (.v (.bool b))
abbrev i64 (x : Int) : AV := .t (.v (.int .i64 x))
def tI (x : Int) : List Tr := [.v (.int .i64 x)]
structure Rst where
  seq : Int
  cas : Int
  code : Int
  value : Int
  deriving DecidableEq, Inhabited
def tR (r : Rst) : List Tr := [.v (.int .i64 r.seq), .v (.int .i64 r.cas), .v (.int .i64 r.code), .v (.int .i64 r.value)]
set_option maxRecDepth 100000 in
set_option maxHeartbeats 4000000 in
theorem clone_I (l : List Int) (h : l.length ≤ 17592186044416) : Cd Try.prog 81 [.ln (l.map tI)] (.sl 0 0 l.length) [.row 0 3 1 (l.map tI)] := by
  refine Cd.enter' Try.func81 rfl Try.ntmps81 rfl ?_
  repeat' (first | ((with_reducible refine kAL ?_); (first | (refine kL 1 rfl ?_; (first | refine A_move rfl rfl _ (.inr rfl) (y := .sl _ _ _) rfl ?_ | refine A_move rfl rfl _ (.inr rfl) (y := .nl) rfl ?_)) | refine A_move rfl rfl _ (.inl rfl) (y := .ln _) rfl ?_ | (refine kL 713 rfl ?_; (refine A_eqnil rfl rfl 22 _ _ rfl ud22 rfl (fun b hb => ?_))) | (refine kL 719 rfl ?_; refine A_lit0 rfl rfl 22 rfl ud22 inf3 ?_) | (refine kL 12 rfl ?_; (refine A_append_nl rfl rfl _ _ 22 rfl ud22 inf3 rfl rfl (by exact .ln (by exact each_map (fun _ => rfl))) qB qB (by ((try simp only [List.take_zero, List.take_succ_cons, List.drop_zero, List.drop_succ_cons, List.nil_append, List.cons_append, List.append_nil, List.length_cons, List.length_nil, List.set_cons_zero, List.set_cons_succ, List.map_cons, List.map_nil, List.take_nil, List.drop_nil, Nat.zero_add, Nat.add_zero, Nat.reduceAdd, Nat.reduceSub]); rfl)) (.push qL qN) qS ?_)) | refine AL.nil ?_)) | with_reducible refine AW.at_region _ ?_ | (with_reducible (first | refine wk0 ?_ | refine wk2 ?_ | refine wk3 ?_ | refine wk9 ?_ | refine wkb ?_ | refine wkd ?_)) | refine kcc rfl (fun hc => ?_) (fun hc => ?_))
  · have hl : l = [] := by simpa using hb hc
    subst hl
    refine Fin.wk (Wk.own 2 rfl 3 1 (.push rfl rfl)) ?_
    exact Fin.q Try.results81 (.cons (.tmp rfl) .nil) [0]
  · exact Fin.q Try.results81 (.cons (.tmp rfl) .nil) [0]
end Go.Proofs.Ytphcebioiipdpaa


namespace Go.Proofs.Ytphcebioiipdpaa
set_option linter.unusedVariables false
set_option linter.unusedSimpArgs false
set_option linter.unnecessarySimpa false
open Go.RowKit Go.ChangeShapes Go.WideShapes
def sI (x : Int) : Prop := -9223372036854775808 ≤ x ∧ x ≤ 9223372036854775807
def sB (_ : Bool) : Prop := True
def tB (x : Bool) : List Tr := [.v (.bool x)]
def b1 {α : Type} (_ : α) : Nat := 1
def sL {α : Type} (s : α → Prop) (k : Nat) (l : List α) : Prop := l.length * k ≤ reachBytes ∧ ∀ a ∈ l, s a
def bL {α : Type} (b : α → Nat) (l : List α) : Nat := (l.map b).sum + 1
def tL {α : Type} (f : α → List Tr) (l : List α) : List Tr := [.lst (l.map f)]
section
variable {H : Type} {enc : TypeId × Value → H} {W : World}
theorem o_int : Opens enc Try.prog W 3 tI sI b1 := Opens.map (Opens.int Try.underlying3) id (fun _ => rfl) (fun _ h => i64_wf h) (fun _ => Nat.le_refl _)
theorem o_bool : Opens enc Try.prog W 4 tB sB b1 := Opens.map (Opens.bool Try.underlying4) id (fun _ => rfl) (fun _ h => trivial) (fun _ => Nat.le_refl _)
end
structure DCase where
  dir : Int
  handle : Int
  value : Int
  deriving DecidableEq, Inhabited
def tCs (x : DCase) : List Tr := tI x.dir ++ tI x.handle ++ tI x.value
def sCs (x : DCase) : Prop := sI x.dir ∧ sI x.handle ∧ sI x.value
def bCs (x : DCase) : Nat := b1 x.dir + b1 x.handle + b1 x.value
theorem o_Cs {H : Type} {enc : TypeId × Value → H} {W : World} : Opens enc Try.prog W 45 tCs sCs bCs := by
  refine Opens.map (Opens.struct (n := 3) Try.underlying45 (by kernel_rfl) (fun _ => rfl) (OpensF.cons (s := 1) rfl rfl (by kernel_rfl) (fun _ => rfl) o_int (OpensF.cons (s := 1) rfl rfl (by kernel_rfl) (fun _ => rfl) o_int (OpensF.cons (s := 1) rfl rfl (by kernel_rfl) (fun _ => rfl) o_int OpensF.nil)))) (fun (p : Int × Int × Int × Unit) => ⟨p.1, p.2.1, p.2.2.1⟩) (fun p => ?_) (fun p h => ?_) (fun p => ?_)
  · simp [tCs, List.append_nil, tI, tL]
  · obtain ⟨h0, h1, h2, _⟩ := h; exact ⟨h0, h1, h2⟩
  · exact Nat.le_of_eq (by simp only [bCs, Nat.add_assoc, Nat.add_zero])
theorem o_Css {H : Type} {enc : TypeId × Value → H} {W : World} : Opens enc Try.prog W 30 (tL tCs) (sL sCs 24) (bL bCs) := Opens.slice (s := 3) Try.underlying30 (by kernel_rfl) (by kernel_rfl) (fun _ => rfl) o_Cs
structure DReq where
  kind : Int
  arg : Int
  value : Int
  dflt : Bool
  cases : List DCase
  deriving DecidableEq, Inhabited
def tRq (x : DReq) : List Tr := tI x.kind ++ tI x.arg ++ tI x.value ++ tB x.dflt ++ tL tCs x.cases
def sRq (x : DReq) : Prop := sI x.kind ∧ sI x.arg ∧ sI x.value ∧ sB x.dflt ∧ (sL sCs 24) x.cases
def bRq (x : DReq) : Nat := b1 x.kind + b1 x.arg + b1 x.value + b1 x.dflt + (bL bCs) x.cases
theorem o_Rq {H : Type} {enc : TypeId × Value → H} {W : World} : Opens enc Try.prog W 32 tRq sRq bRq := by
  refine Opens.map (Opens.struct (n := 5) Try.underlying32 (by kernel_rfl) (fun _ => rfl) (OpensF.cons (s := 1) rfl rfl (by kernel_rfl) (fun _ => rfl) o_int (OpensF.cons (s := 1) rfl rfl (by kernel_rfl) (fun _ => rfl) o_int (OpensF.cons (s := 1) rfl rfl (by kernel_rfl) (fun _ => rfl) o_int (OpensF.cons (s := 1) rfl rfl (by kernel_rfl) (fun _ => rfl) o_bool (OpensF.cons (s := 1) rfl rfl (by kernel_rfl) (fun _ => rfl) o_Css OpensF.nil)))))) (fun (p : Int × Int × Int × Bool × List DCase × Unit) => ⟨p.1, p.2.1, p.2.2.1, p.2.2.2.1, p.2.2.2.2.1⟩) (fun p => ?_) (fun p h => ?_) (fun p => ?_)
  · simp [tRq, List.append_nil, tB, tCs, tI, tL]
  · obtain ⟨h0, h1, h2, h3, h4, _⟩ := h; exact ⟨h0, h1, h2, h3, h4⟩
  · exact Nat.le_of_eq (by simp only [bRq, Nat.add_assoc, Nat.add_zero])


structure DTold where
  thread : Int
  result : Rst
  deriving DecidableEq, Inhabited
def tTd (x : DTold) : List Tr := tI x.thread ++ tR x.result
structure DWait where
  on : Bool
  ticket : Int
  seq : Int
  cases : List DCase
  deriving DecidableEq, Inhabited
def tWt (x : DWait) : List Tr := tB x.on ++ tI x.ticket ++ tI x.seq ++ tL tCs x.cases
structure DChan where
  gen : Int
  cap : Int
  used : Bool
  closed : Bool
  buf : List Int
  deriving DecidableEq, Inhabited
def tCh (x : DChan) : List Tr := tI x.gen ++ tI x.cap ++ tB x.used ++ tB x.closed ++ tL tI x.buf
structure DHall where
  ticket : Int
  chans : List DChan
  waits : List DWait
  done : List Rst
  deriving DecidableEq, Inhabited
structure DConf where
  kind : Int
  threads : Int
  chans : Int
  cap : Int
  nodes : Int
  retire : Int
  patience : Int
  tags : Int
  seqs : Int
  gens : Int
  start : List Int
  deriving DecidableEq, Inhabited
end Go.Proofs.Ytphcebioiipdpaa


namespace Go.Proofs.Ytphcebioiipdpaa
set_option linter.unusedVariables false
set_option linter.unusedSimpArgs false
set_option linter.unnecessarySimpa false
open Go.RowKit
def ixF {α : Type} (p : α → Bool) : List α → Int
  | [] => -1
  | a :: l => if p a then 0 else if ixF p l < 0 then -1 else ixF p l + 1
theorem ixF_b {α : Type} (p : α → Bool) : ∀ l : List α, -1 ≤ ixF p l ∧ ixF p l < l.length
  | [] => by simp [ixF]
  | a :: l => by have := ixF_b p l; unfold ixF; simp only [List.length_cons]; repeat' split
                 all_goals omega
theorem ixF_at {α : Type} (p : α → Bool) : ∀ (l : List α) (j : Nat) (a : α), (∀ q, q < j → ∀ b, l[q]? = some b → p b = false) → l[j]? = some a → p a = true → ixF p l = j
  | [], j, a, _, h, _ => by simp at h
  | b :: l, 0, a, _, h, hp => by simp at h; subst h; simp [ixF, hp]
  | b :: l, j + 1, a, h0, h, hp => by
    have h1 := ixF_at p l j a (fun q hq c hc => h0 (q + 1) (by omega) c (by simpa using hc)) (by simpa using h) hp
    have h2 := h0 0 (by omega) b rfl
    unfold ixF
    rw [h2, h1]; simp; omega
theorem ixF_none {α : Type} (p : α → Bool) : ∀ l : List α, (∀ q : Nat, ∀ b, l[q]? = some b → p b = false) → ixF p l = -1
  | [], _ => rfl
  | b :: l, h0 => by
    have h1 := ixF_none p l (fun q c hc => h0 (q + 1) c (by simpa using hc))
    have h2 := h0 0 b rfl
    unfold ixF
    rw [h2, h1]; simp
theorem ixF_get {α : Type} (p : α → Bool) : ∀ l : List α, 0 ≤ ixF p l → ∃ a, l[(ixF p l).toNat]? = some a ∧ p a = true
  | [], h => by simp [ixF] at h
  | b :: l, h => by
    unfold ixF at h ⊢
    cases hp : p b
    · simp only [hp, Bool.false_eq_true, if_false] at h ⊢
      by_cases h2 : ixF p l < 0
      · rw [if_pos h2] at h; omega
      · rw [if_neg h2] at h ⊢
        obtain ⟨a, ha, hq⟩ := ixF_get p l (by omega)
        refine ⟨a, ?_, hq⟩
        rw [show (ixF p l + 1).toNat = (ixF p l).toNat + 1 by omega]; simpa using ha
    · exact ⟨b, by simp, hp⟩
theorem ixF_yes {α : Type} (p : α → Bool) {l : List α} {q : Nat} {a : α} (h : l[q]? = some a) (hp : p a = true) : 0 ≤ ixF p l := by
  by_cases h0 : 0 ≤ ixF p l
  · exact h0
  · exfalso
    have hb := (ixF_b p l).1
    suffices h : ∀ (l : List α) (q : Nat), l[q]? = some a → ixF p l ≠ -1 by exact h l q ‹_› (by omega)
    intro l
    induction l with
    | nil => intro q h; simp at h
    | cons b l ih =>
      intro q h
      unfold ixF
      cases q with
      | zero => simp at h; subst h; simp [hp]
      | succ q =>
        have h1 := ih q (by simpa using h)
        have h2 := (ixF_b p l).1
        repeat' split
        all_goals omega
def putOk (l : List DWait) (t : Int) : Bool := decide (0 ≤ t ∧ t < l.length ∧ (l.getD t.toNat default).on = false)
def putW (l : List DWait) (t : Int) (w : DWait) : List DWait := if putOk l t then l.set t.toNat ⟨true, w.ticket, w.seq, w.cases⟩ else l
def cutOk (l : List DWait) (t : Int) : Bool := decide (0 ≤ t ∧ t < l.length ∧ (l.getD t.toNat default).on = true)
def w0 : DWait := ⟨false, 0, 0, []⟩
def cutW (l : List DWait) (t : Int) : List DWait := if cutOk l t then l.set t.toNat w0 else l
theorem putW_len (l : List DWait) (t : Int) (w : DWait) : (putW l t w).length = l.length := by unfold putW; split <;> simp
theorem cutW_len (l : List DWait) (t : Int) : (cutW l t).length = l.length := by unfold cutW; split <;> simp
structure FS where
  th : Int
  wh : Int
  ok : Bool
def isC (d h : Int) (c : DCase) : Bool := decide (c.dir = d ∧ c.handle = h)
def firK (l : List DWait) (d h : Int) : Nat → FS
  | 0 => ⟨0, 0, false⟩
  | k + 1 => if (l.getD k default).on = true ∧ 0 ≤ ixF (isC d h) (l.getD k default).cases ∧ ((firK l d h k).ok = false ∨ (l.getD k default).ticket < (l.getD (firK l d h k).th.toNat default).ticket) then ⟨k, ixF (isC d h) (l.getD k default).cases, true⟩ else firK l d h k
theorem firK_ok (l : List DWait) (d h : Int) (k : Nat) : ((firK l d h k).ok = false ∧ (firK l d h k).th = 0 ∧ (firK l d h k).wh = 0) ∨ ((firK l d h k).ok = true ∧ ∃ t : Nat, (firK l d h k).th = t ∧ t < k ∧ (l.getD t default).on = true ∧ (firK l d h k).wh = ixF (isC d h) (l.getD t default).cases ∧ 0 ≤ (firK l d h k).wh) := by
  induction k with
  | zero => exact .inl ⟨rfl, rfl, rfl⟩
  | succ k ih =>
    unfold firK
    split
    · rename_i hc; exact .inr ⟨rfl, k, rfl, by omega, hc.1, rfl, hc.2.1⟩
    · rcases ih with ih | ⟨h0, t, h1, h2, h3, h4, h5⟩
      · exact .inl ih
      · exact .inr ⟨h0, t, h1, by omega, h3, h4, h5⟩
theorem firK_least (l : List DWait) (d h : Int) (k : Nat) : ∀ j, j < k → (l.getD j default).on = true → 0 ≤ ixF (isC d h) (l.getD j default).cases → (firK l d h k).ok = true ∧ (l.getD (firK l d h k).th.toNat default).ticket ≤ (l.getD j default).ticket := by
  induction k with
  | zero => intro j hj; omega
  | succ k ih =>
    intro j hj ho hi
    unfold firK
    by_cases hc : (l.getD k default).on = true ∧ 0 ≤ ixF (isC d h) (l.getD k default).cases ∧ ((firK l d h k).ok = false ∨ (l.getD k default).ticket < (l.getD (firK l d h k).th.toNat default).ticket)
    · rw [if_pos hc]
      refine ⟨rfl, ?_⟩
      rw [Int.toNat_natCast]
      by_cases e : j = k
      · subst e; exact Int.le_refl _
      · have := ih j (by omega) ho hi
        rcases hc.2.2 with h1 | h1
        · rw [this.1] at h1; cases h1
        · omega
    · rw [if_neg hc]
      by_cases e : j = k
      · subst e
        cases hk : (firK l d h j).ok
        · exact absurd ⟨ho, hi, .inl hk⟩ hc
        · refine ⟨rfl, ?_⟩
          by_cases h2 : (l.getD j default).ticket < (l.getD (firK l d h j).th.toNat default).ticket
          · exact absurd ⟨ho, hi, .inr h2⟩ hc
          · omega
      · exact ih j (by omega) ho hi
end Go.Proofs.Ytphcebioiipdpaa


namespace Go.Proofs.Ytphcebioiipdpaa
set_option linter.unusedVariables false
set_option linter.unusedSimpArgs false
set_option linter.unnecessarySimpa false
open Go.RowKit
set_option maxRecDepth 100000
def okW (l : List DWait) : Prop := l.length ≤ 2932031007402 ∧ ∀ w ∈ l, w.cases.length ≤ 5864062014805
theorem okW.at {l : List DWait} (h : okW l) {q : Nat} {a : DWait} (ha : l[q]? = some a) : a.cases.length ≤ 5864062014805 := h.2 a (List.mem_of_getElem? ha)
theorem getD_of {α : Type} {l : List α} {n : Nat} {a d : α} (h : l[n]? = some a) : l.getD n d = a := by rw [List.getD_eq_getElem?_getD, h]; rfl
end Go.Proofs.Ytphcebioiipdpaa


namespace Go.Proofs.Ytphcebioiipdpaa
set_option linter.unusedVariables false
set_option linter.unusedSimpArgs false
set_option linter.unnecessarySimpa false
open Go.RowKit
set_option maxRecDepth 100000
set_option maxHeartbeats 4000000
theorem clone_Cs (l : List DCase) (h : l.length ≤ 5864062014805) : Cd Try.prog 80 [.ln (l.map tCs)] (.sl 0 0 l.length) [.row 0 45 3 (l.map tCs)] := by
  refine Cd.enter' Try.func80 rfl Try.ntmps80 rfl ?_
  repeat' (first | ((with_reducible refine kAL ?_); (first | (refine kL 1 rfl ?_; (first | refine A_move rfl rfl _ (.inr rfl) (y := .sl _ _ _) rfl ?_ | refine A_move rfl rfl _ (.inr rfl) (y := .nl) rfl ?_)) | refine A_move rfl rfl _ (.inl rfl) (y := .ln _) rfl ?_ | (refine kL 969 rfl ?_; (refine A_eqnil rfl rfl 30 _ _ rfl ud30 rfl (fun b hb => ?_))) | (refine kL 975 rfl ?_; refine A_lit0 rfl rfl 30 rfl ud30 inf45 ?_) | (refine kL 12 rfl ?_; (refine A_append_nl rfl rfl _ _ 30 rfl ud30 inf45 rfl rfl (by exact .ln (by exact each_map (fun _ => rfl))) qB qB (by ((try simp only [List.take_zero, List.take_succ_cons, List.drop_zero, List.drop_succ_cons, List.nil_append, List.cons_append, List.append_nil, List.length_cons, List.length_nil, List.set_cons_zero, List.set_cons_succ, List.map_cons, List.map_nil, List.take_nil, List.drop_nil, Nat.zero_add, Nat.add_zero, Nat.reduceAdd, Nat.reduceSub]); rfl)) (.push qL qN) qS ?_)) | refine AL.nil ?_)) | with_reducible refine AW.at_region _ ?_ | (with_reducible (first | refine wk0 ?_ | refine wk2 ?_ | refine wk3 ?_ | refine wk9 ?_ | refine wkb ?_ | refine wkd ?_)) | refine kcc rfl (fun hc => ?_) (fun hc => ?_))
  · have hl : l = [] := by simpa using hb hc
    subst hl
    refine Fin.wk (Wk.own 2 rfl 45 3 (.push rfl rfl)) ?_
    exact Fin.q Try.results80 (.cons (.tmp rfl) .nil) [0]
  · exact Fin.q Try.results80 (.cons (.tmp rfl) .nil) [0]
theorem clone_Wt (l : List DWait) (h : l.length ≤ 2932031007402) : Cd Try.prog 79 [.ln (l.map tWt)] (.sl 0 0 l.length) [.row 0 43 4 (l.map tWt)] := by
  refine Cd.enter' Try.func79 rfl Try.ntmps79 rfl ?_
  repeat' (first | ((with_reducible refine kAL ?_); (first | (refine kL 1 rfl ?_; (first | refine A_move rfl rfl _ (.inr rfl) (y := .sl _ _ _) rfl ?_ | refine A_move rfl rfl _ (.inr rfl) (y := .nl) rfl ?_)) | refine A_move rfl rfl _ (.inl rfl) (y := .ln _) rfl ?_ | (refine kL 841 rfl ?_; (refine A_eqnil rfl rfl 26 _ _ rfl ud26 rfl (fun b hb => ?_))) | (refine kL 847 rfl ?_; refine A_lit0 rfl rfl 26 rfl ud26 inf43 ?_) | (refine kL 12 rfl ?_; (refine A_append_nl rfl rfl _ _ 26 rfl ud26 inf43 rfl rfl (by exact .ln (by exact each_map (fun _ => rfl))) qB qB (by ((try simp only [List.take_zero, List.take_succ_cons, List.drop_zero, List.drop_succ_cons, List.nil_append, List.cons_append, List.append_nil, List.length_cons, List.length_nil, List.set_cons_zero, List.set_cons_succ, List.map_cons, List.map_nil, List.take_nil, List.drop_nil, Nat.zero_add, Nat.add_zero, Nat.reduceAdd, Nat.reduceSub]); rfl)) (.push qL qN) qS ?_)) | refine AL.nil ?_)) | with_reducible refine AW.at_region _ ?_ | (with_reducible (first | refine wk0 ?_ | refine wk2 ?_ | refine wk3 ?_ | refine wk9 ?_ | refine wkb ?_ | refine wkd ?_)) | refine kcc rfl (fun hc => ?_) (fun hc => ?_))
  · have hl : l = [] := by simpa using hb hc
    subst hl
    refine Fin.wk (Wk.own 2 rfl 43 4 (.push rfl rfl)) ?_
    exact Fin.q Try.results79 (.cons (.tmp rfl) .nil) [0]
  · exact Fin.q Try.results79 (.cons (.tmp rfl) .nil) [0]
theorem clone_Ch (l : List DChan) (h : l.length ≤ 2932031007402) : Cd Try.prog 49 [.ln (l.map tCh)] (.sl 0 0 l.length) [.row 0 66 5 (l.map tCh)] := by
  refine Cd.enter' Try.func49 rfl Try.ntmps49 rfl ?_
  repeat' (first | ((with_reducible refine kAL ?_); (first | (refine kL 1 rfl ?_; (first | refine A_move rfl rfl _ (.inr rfl) (y := .sl _ _ _) rfl ?_ | refine A_move rfl rfl _ (.inr rfl) (y := .nl) rfl ?_)) | refine A_move rfl rfl _ (.inl rfl) (y := .ln _) rfl ?_ | (refine kL 809 rfl ?_; (refine A_eqnil rfl rfl 25 _ _ rfl ud25 rfl (fun b hb => ?_))) | (refine kL 815 rfl ?_; refine A_lit0 rfl rfl 25 rfl ud25 inf66 ?_) | (refine kL 12 rfl ?_; (refine A_append_nl rfl rfl _ _ 25 rfl ud25 inf66 rfl rfl (by exact .ln (by exact each_map (fun _ => rfl))) qB qB (by ((try simp only [List.take_zero, List.take_succ_cons, List.drop_zero, List.drop_succ_cons, List.nil_append, List.cons_append, List.append_nil, List.length_cons, List.length_nil, List.set_cons_zero, List.set_cons_succ, List.map_cons, List.map_nil, List.take_nil, List.drop_nil, Nat.zero_add, Nat.add_zero, Nat.reduceAdd, Nat.reduceSub]); rfl)) (.push qL qN) qS ?_)) | refine AL.nil ?_)) | with_reducible refine AW.at_region _ ?_ | (with_reducible (first | refine wk0 ?_ | refine wk2 ?_ | refine wk3 ?_ | refine wk9 ?_ | refine wkb ?_ | refine wkd ?_)) | refine kcc rfl (fun hc => ?_) (fun hc => ?_))
  · have hl : l = [] := by simpa using hb hc
    subst hl
    refine Fin.wk (Wk.own 2 rfl 66 5 (.push rfl rfl)) ?_
    exact Fin.q Try.results49 (.cons (.tmp rfl) .nil) [0]
  · exact Fin.q Try.results49 (.cons (.tmp rfl) .nil) [0]
end Go.Proofs.Ytphcebioiipdpaa


namespace Go.Proofs.Ytphcebioiipdpaa
set_option linter.unusedVariables false
set_option linter.unusedSimpArgs false
set_option linter.unnecessarySimpa false
open Go.RowKit
set_option maxHeartbeats 32000000
attribute [local irreducible] AL AW RG Fin C Cd Cio thenQ blockQ retQ
set_option maxRecDepth 100000
theorem ints_c (a b : List Int) (ha : a.length ≤ 1152921504606846976) : Cd Try.prog 21 [.ln (a.map tI), .ln (b.map tI)] (.t (.v (.bool (decide (a = b))))) [] := by
  have h1 : (a.map tI).length = a.length := List.length_map _
  have h2 : (b.map tI).length = b.length := List.length_map _
  refine Cd.enter' Try.func21 rfl Try.ntmps21 rfl ?_
  repeat' (first | ((with_reducible refine kAL ?_); (first | refine A_as rfl rfl rfl rfl ?_ | (refine kL 0 rfl ?_; (first | refine A_mt rfl rfl rfl rfl ?_ | refine A_move rfl rfl _ (.inl rfl) (y := .ln _) rfl ?_)) | refine A_len rfl rfl 22 _ rfl ud22 rfl ?_ | refine A_cmp (d := 10) rfl rfl .neq 3 3 _ _ rfl rfl rfl rfl ?_ | refine AL.nil ?_)) | (with_reducible (first | refine wk0 ?_ | refine wk1 ?_ | refine wk2 ?_ | refine wk3 ?_ | refine wk9 ?_ | refine wkb ?_ | refine wkd ?_)) | refine kcp rfl (fun hc => ?_) (fun hc => ?_) | with_reducible refine AW.at_region _ ?_)
  · refine Fin.q Try.results21 (.cons (.tmp rfl) .nil) [] (hr := (.t ?_))
    have : a ≠ b := by rintro rfl; exact hc rfl
    simp [this]
  · refine AW.loopP (fun (i : Nat) => ∀ j, j < i → a.getD j 0 = b.getD j 0) (fun (i : Nat) => (pu (pu (pu (pu (pu (fun _ => .any) 0 (.ln (a.map tI))) 1 (.ln (b.map tI))) 4 (.t (.v (.bool false)))) 12 (i64 (a.map tI).length)) 13 (i64 i))) (fun (i : Nat) => []) (fun (i : Nat) => a.length + 1 - i) (0) ?_ ?_ ?_
    · intro j hj; omega
    · exact Wk.cq 0
    · intro i hi
      repeat' (first | ((with_reducible refine kAL ?_); (first | refine A_as rfl rfl rfl rfl ?_ | refine A_mt rfl rfl rfl rfl ?_ | (refine kL 105 rfl ?_; (first | refine A_add rfl rfl 3 3 _ _ rfl rfl rfl (by first | exact wi | rfl) ?_ | refine A_cmp (d := 14) rfl rfl .lss 3 3 _ _ rfl rfl rfl rfl ?_)) | refine AL.nil ?_)) | ((with_reducible refine kRG ?_); (first | (refine kR 0 rfl ?_; (first | refine R_mt rfl rfl rfl rfl ?_ | refine R_move rfl rfl _ (.inl rfl) (y := .ln _) rfl ?_)) | (refine kR 710 rfl ?_; refine R_idx rfl rfl 22 _ _ rfl ud22 inf3 (by decide) (by exact .inl rfl) rfl (by omega) _ (by with_reducible exact Int.toNat_natCast _) (by exact map_get (get_D (x := 0) (by omega))) rfl (cs' := [_]) rfl ?_) | refine R_load_lp rfl rfl 3 _ rfl ud3 rfl rfl rfl ?_ | refine R_cmp (d := 24) rfl rfl .neq 3 3 _ _ rfl rfl rfl rfl ?_ | refine RG.nil ⟨by kernel_rfl, ?_⟩)) | (with_reducible (first | refine wk0 ?_ | refine wk1 ?_ | refine wk2 ?_ | refine wk3 ?_ | refine wk4 ?_ | refine wk5 ?_ | refine wk6 ?_ | refine wk7 ?_ | refine wk9 ?_ | refine wkb ?_ | refine wkc ?_ | refine wkd ?_)) | refine kcp rfl (fun hc => ?_) (fun hc => ?_) | with_reducible refine AW.at_region _ ?_ | refine AW.at_draw 6 mixed 0 [[], [], [0, 1], [0, 1, 2], [], [], [4, 5], [4, 5, 6], [0, 1, 2, 3, 4, 5, 6, 7]] qR ?_)
      · refine Fin.q Try.results21 (.cons (.tmp rfl) .nil) [] (hr := (.t ?_))
        have : a ≠ b := by rintro rfl; exact hc rfl
        simp [this]
      · refine ⟨i + 1, fun j hj => ?_, by omega, ?_⟩
        · by_cases e : j = i
          · subst e; exact Decidable.not_not.1 hc
          · exact hi j (by omega)
        · exact Wk.cq 0
      · refine Fin.q Try.results21 (.cons (.tmp rfl) .nil) [] (hr := (.t ?_))
        have : a = b := all_eq (z := 0) (by omega) fun j hj => hi j (by omega)
        simp [this]
end Go.Proofs.Ytphcebioiipdpaa


namespace Go.Proofs.Ytphcebioiipdpaa
set_option linter.unusedVariables false
set_option linter.unusedSimpArgs false
set_option linter.unnecessarySimpa false
open Go.RowKit
set_option maxHeartbeats 32000000
attribute [local irreducible] AL AW RG Fin C Cd Cio thenQ blockQ retQ
set_option maxRecDepth 100000
end Go.Proofs.Ytphcebioiipdpaa


namespace Go.Proofs.Ytphcebioiipdpaa
set_option linter.unusedVariables false
set_option linter.unusedSimpArgs false
set_option linter.unnecessarySimpa false
open Go.RowKit
set_option maxHeartbeats 32000000
attribute [local irreducible] AL AW RG Fin C Cd Cio thenQ blockQ retQ
set_option maxRecDepth 100000
theorem set_same {l : List DWait} {q : Nat} {a : DWait} (h : l[q]? = some a) : l.set q ⟨a.on, a.ticket, a.seq, a.cases⟩ = l := by
  obtain ⟨hq, e⟩ := List.getElem?_eq_some_iff.1 h
  rw [← e]; exact List.set_getElem_self hq
theorem putOk_yes {l : List DWait} {n : Nat} {a : DWait} (h : l[n]? = some a) (ho : a.on = false) : putOk l n = true := by
  have := get_lt h
  unfold putOk; rw [Int.toNat_natCast, getD_of h]; exact decide_eq_true ⟨by omega, by omega, ho⟩
theorem putOk_on {l : List DWait} {n : Nat} {a : DWait} (h : l[n]? = some a) (ho : a.on = true) : putOk l n = false := by
  unfold putOk; rw [Int.toNat_natCast, getD_of h]; exact decide_eq_false fun k => by rw [ho] at k; simp at k
theorem putOk_out {l : List DWait} {t : Int} (h : ¬ (0 ≤ t ∧ t < l.length)) : putOk l t = false := by unfold putOk; exact decide_eq_false fun k => h ⟨k.1, k.2.1⟩
theorem cutOk_yes {l : List DWait} {n : Nat} {a : DWait} (h : l[n]? = some a) (ho : a.on = true) : cutOk l n = true := by
  have := get_lt h
  unfold cutOk; rw [Int.toNat_natCast, getD_of h]; exact decide_eq_true ⟨by omega, by omega, ho⟩
theorem cutOk_off {l : List DWait} {n : Nat} {a : DWait} (h : l[n]? = some a) (ho : a.on = false) : cutOk l n = false := by
  unfold cutOk; rw [Int.toNat_natCast, getD_of h]; exact decide_eq_false fun k => by rw [ho] at k; simp at k
theorem cutOk_out {l : List DWait} {t : Int} (h : ¬ (0 ≤ t ∧ t < l.length)) : cutOk l t = false := by unfold cutOk; exact decide_eq_false fun k => h ⟨k.1, k.2.1⟩
theorem putW_yes {l : List DWait} {n : Nat} {w : DWait} (h : putOk l n = true) : putW l n w = l.set n ⟨true, w.ticket, w.seq, w.cases⟩ := by unfold putW; rw [h, if_pos rfl, Int.toNat_natCast]
theorem putW_no {l : List DWait} {t : Int} {w : DWait} (h : putOk l t = false) : putW l t w = l := by unfold putW; rw [h]; rfl
theorem cutW_yes {l : List DWait} {n : Nat} (h : cutOk l n = true) : cutW l n = l.set n w0 := by unfold cutW; rw [h, if_pos rfl, Int.toNat_natCast]
theorem cutW_no {l : List DWait} {t : Int} (h : cutOk l t = false) : cutW l t = l := by unfold cutW; rw [h]; rfl
set_option maxHeartbeats 4000000 in
theorem wcopy_c (l : List DWait) (hl : okW l) : Cd Try.prog 50 [.ln (l.map tWt)] (.sl 0 0 l.length) [.row 0 43 4 (l.map tWt)] := by
  have h0 := hl.1
  have h1 : (l.map tWt).length = l.length := List.length_map _
  first | refine Cd.enter' Try.func50 rfl Try.ntmps50 rfl ?_ | refine Cio.enter' Try.func50 rfl Try.ntmps50 rfl qM ?_ | refine C.enter' Try.func50 rfl Try.ntmps50 rfl qM ?_
  repeat' (first | ((with_reducible refine kAL ?_); (first | (refine kL 1 rfl ?_; (first | refine A_move rfl rfl _ (.inr rfl) (y := .sl _ _ _) rfl ?_ | refine A_move rfl rfl _ (.inr rfl) (y := .nl) rfl ?_)) | (refine kL 0 rfl ?_; (first | refine A_mt rfl rfl rfl rfl ?_ | refine A_move rfl rfl _ (.inl rfl) (y := .sl _ _ _) rfl ?_ | refine A_move rfl rfl _ (.inl rfl) (y := .ln _) rfl ?_)) | (refine kL 2538 rfl ?_; refine A_cl rfl rfl Try.func79 rfl (clone_Wt l h0) ?_) | refine A_len rfl rfl 26 _ rfl ud26 rfl ?_ | refine AL.nil ?_)) | with_reducible refine AW.at_region _ ?_ | (with_reducible (first | refine wk0 ?_ | refine wk1 ?_ | refine wk2 ?_)))
  refine AW.loopP (fun (q : Nat) => q ≤ l.length) (fun (q : Nat) => (pu (pu (pu (fun _ => .any) 3 (.sl 0 0 l.length)) 8 (i64 l.length)) 9 (i64 q))) (fun (q : Nat) => [.row 0 43 4 (l.map tWt)]) (fun (q : Nat) => l.length - q) (0) ?_ ?_ ?_
  · exact Nat.zero_le _
  · exact Wk.cq 1
  · intro q h2
    by_cases hq : q < l.length
    · obtain ⟨a, ha⟩ : ∃ a, l[q]? = some a := ⟨_, List.getElem?_eq_getElem hq⟩
      repeat' (first | ((with_reducible refine kAL ?_); (first | (refine kL 2570 rfl ?_; (refine A_cl (d := 19) rfl rfl Try.func80 rfl (clone_Cs a.cases (hl.at ha)) ?_; (try refine AL.wk (Wk.freeze 1 rfl 19 rfl (by first | exact .all (by first | (simp <;> fail) | fail) | fail) qN) ?_))) | refine A_as rfl rfl rfl rfl ?_ | (refine kL 0 rfl ?_; (first | refine A_mt rfl rfl rfl rfl ?_ | refine A_move rfl rfl _ (.inl rfl) (y := .sl _ _ _) rfl ?_)) | (refine kL 105 rfl ?_; (first | refine A_cmp (d := 10) rfl rfl (c := true) .lss 3 3 _ _ rfl rfl rfl (by exact congrArg some (decide_eq_true (by (try (dsimp only; fail_if_success done)); omega))) ?_ | refine A_add rfl rfl 3 3 _ _ rfl rfl rfl (by exact wi) ?_)) | (refine kL 838 rfl ?_; refine A_idx_sl rfl rfl 26 _ _ rfl ud26 inf43 rfl rfl (by first | (simp <;> fail) | fail) rfl (by omega) _ (by with_reducible exact Int.toNat_natCast _) (by omega) ?_) | refine A_field rfl rfl 43 _ 3 rfl ud43 rfl inf30 (by decide) 3 rfl rfl ?_ | refine A_load_rp rfl rfl 30 _ rfl ud30 rfl rfl rfl (by exact map_get (by assumption)) rfl ?_ | (refine kL 963 rfl ?_; refine A_store_rp rfl rfl 30 _ _ rfl inf30 (by decide) rfl rfl (by exact map_get (by assumption)) rfl rfl rfl (Nat.le_of_ble_eq_true rfl) (by exact map_set (f := tWt) (x := ⟨_, _, _, _⟩)) qN ?_) | refine AL.nil ?_)) | with_reducible refine AW.at_region _ ?_ | (with_reducible (first | refine wk0 ?_ | refine wk1 ?_ | refine wk2 ?_ | refine wk5 ?_ | refine wkd ?_)) | refine kct rfl ?_)
      all_goals first | (exfalso; omega) | skip
      rw [set_same ha]
      refine ⟨q + 1, by omega, by omega, ?_⟩
      exact Wk.cq 1
    · repeat' (first | ((with_reducible refine kAL ?_); (first | refine A_move rfl rfl _ (.inr rfl) (y := .sl _ _ _) rfl ?_ | refine A_move rfl rfl _ (.inl rfl) (y := .sl _ _ _) rfl ?_ | refine A_cmp (d := 10) rfl rfl (c := false) .lss 3 3 _ _ rfl rfl rfl (by exact congrArg some (decide_eq_false (by (try (dsimp only; fail_if_success done)); omega))) ?_ | refine AL.nil ?_)) | with_reducible refine AW.at_region _ ?_ | (with_reducible (first | refine wk0 ?_ | refine wk2 ?_ | refine wk4 ?_ | refine wk7 ?_ | refine wk9 ?_ | refine wkb ?_ | refine wkc ?_)) | refine kcf rfl ?_)
      all_goals first | (exfalso; omega) | (exact Fin.q Try.results50 (.cons (.tmp rfl) .nil) [0])
theorem at_c (l : List DWait) (t : Int) : Cd Try.prog 113 [.ln (l.map tWt), i64 t] (bo (decide (0 ≤ t ∧ t < l.length))) [] := by
  have h1 : (l.map tWt).length = l.length := List.length_map _
  by_cases p1 : 0 ≤ t <;> by_cases p2 : t < l.length
  all_goals
    refine Cd.enter' Try.func113 rfl Try.ntmps113 rfl ?_
    repeat' (first | ((with_reducible refine kAL ?_); (first | refine A_as rfl rfl rfl rfl ?_ | (refine kL 0 rfl ?_; (first | refine A_mt rfl rfl rfl rfl ?_ | refine A_move rfl rfl _ (.inl rfl) (y := .ln _) rfl ?_)) | (refine kL 105 rfl ?_; (first | refine A_cmp (d := 6) rfl rfl (c := true) .geq 3 3 _ _ rfl rfl rfl (by exact congrArg some (decide_eq_true (by (try (dsimp only; fail_if_success done)); omega))) ?_ | refine A_cmp (d := 6) rfl rfl (c := false) .geq 3 3 _ _ rfl rfl rfl (by exact congrArg some (decide_eq_false (by (try (dsimp only; fail_if_success done)); omega))) ?_ | refine A_cmp (d := 11) rfl rfl (c := true) .lss 3 3 _ _ rfl rfl rfl (by exact congrArg some (decide_eq_true (by (try (dsimp only; fail_if_success done)); omega))) ?_ | refine A_cmp (d := 11) rfl rfl (c := false) .lss 3 3 _ _ rfl rfl rfl (by exact congrArg some (decide_eq_false (by (try (dsimp only; fail_if_success done)); omega))) ?_)) | refine A_len rfl rfl 26 _ rfl ud26 rfl ?_ | refine A_pick rfl rfl _ _ _ rfl rfl rfl rfl rfl ?_ | refine AL.nil ?_ | refine AL.skip rfl rfl ?_)) | with_reducible refine AW.at_region _ ?_ | (with_reducible (first | refine wk0 ?_ | refine wk2 ?_ | refine wk9 ?_ | refine wkb ?_)))
    all_goals first | (exfalso; omega) | (refine Fin.q Try.results113 (.cons (.tmp rfl) .nil) [] (hr := (.t ?_)))
    all_goals first | (rw [decide_eq_true (by omega)]; done) | (rw [decide_eq_false (by omega)]; done) | (simp [*]; done) | (simp; omega)
set_option maxHeartbeats 4000000 in
theorem wput_c (l : List DWait) (t : Int) (w : DWait) (hl : okW l) (hw : w.cases.length ≤ 5864062014805) : Cd Try.prog 95 [.ln (l.map tWt), i64 t, .agg [bo w.on, i64 w.ticket, i64 w.seq, .ln (w.cases.map tCs)]] (.tup [.sl 0 0 l.length, bo (putOk l t)]) [.row 0 43 4 ((putW l t w).map tWt)] := by
  have h1 : (l.map tWt).length = l.length := List.length_map _
  by_cases ht : 0 ≤ t ∧ t < l.length
  · obtain ⟨n, rfl⟩ : ∃ n : Nat, t = n := ⟨t.toNat, by omega⟩
    obtain ⟨⟨on, tk, sq, cs⟩, ha⟩ : ∃ a, l[n]? = some a := ⟨_, List.getElem?_eq_getElem (by omega)⟩
    have cA := at_c l n
    rw [decide_eq_true ht] at cA
    cases on
    · rw [putW_yes (putOk_yes ha rfl), putOk_yes ha rfl]
      refine Cd.enter' Try.func95 rfl Try.ntmps95 rfl ?_
      repeat' (first | ((with_reducible refine kAL ?_); (first | (refine kL 2570 rfl ?_; (refine A_cl (d := 25) rfl rfl Try.func80 rfl (clone_Cs w.cases hw) ?_; (try refine AL.wk (Wk.freeze 2 rfl 25 rfl (by first | exact .all (by first | (simp <;> fail) | fail) | fail) qN) ?_))) | refine A_box rfl rfl 43 _ rfl rfl (.push qL qN) ?_ | (refine kL 1 rfl ?_; (first | refine A_as rfl rfl rfl rfl ?_ | refine A_move rfl rfl _ (.inr rfl) (y := .sl _ _ _) rfl ?_ | refine A_move rfl rfl _ (.inr rfl) (y := .nl) rfl ?_)) | (refine kL 0 rfl ?_; (first | refine A_mt rfl rfl rfl rfl ?_ | refine A_move rfl rfl _ (.inl rfl) (y := .sl _ _ _) rfl ?_ | refine A_move rfl rfl _ (.inl rfl) (y := .ln _) rfl ?_)) | (refine kL 1610 rfl ?_; refine A_cl rfl rfl Try.func50 rfl (wcopy_c l hl) ?_) | (refine kL 3626 rfl ?_; refine A_cl rfl rfl Try.func113 rfl (cA) ?_) | refine A_not rfl rfl _ _ rfl rfl ?_ | (refine kL 838 rfl ?_; (first | refine A_idx_sl rfl rfl 26 _ _ rfl ud26 inf43 rfl rfl (by first | exact Nat.le_refl _ | (simp <;> fail)) rfl (by omega) _ (by with_reducible exact Int.toNat_natCast _) (by omega) ?_ | refine A_idx rfl rfl 26 _ _ rfl ud26 inf43 (by decide) (by exact .inl rfl) rfl (by omega) _ (by with_reducible exact Int.toNat_natCast _) (by exact map_get (by assumption)) rfl (cs' := [_, _, _, _]) rfl ?_)) | (refine kL 1380 rfl ?_; (first | refine A_field rfl rfl 43 _ 0 rfl ud43 rfl inf4 (by decide) 0 rfl rfl ?_ | refine A_field rfl rfl 43 _ 3 rfl ud43 rfl inf30 (by decide) 3 rfl rfl ?_)) | refine A_load_lp rfl rfl 4 _ rfl ud4 rfl rfl rfl ?_ | refine A_pick rfl rfl _ _ _ rfl rfl rfl rfl rfl ?_ | refine A_load rfl rfl 30 _ rfl ud30 rfl rfl rfl rfl ?_ | refine A_store rfl rfl 4 _ _ rfl inf4 rfl rfl rfl rfl (Nat.le_of_ble_eq_true rfl) qN qN ?_ | refine A_store rfl rfl 30 _ _ rfl inf30 rfl rfl rfl rfl (Nat.le_of_ble_eq_true rfl) qN qN ?_ | refine A_load_agg rfl rfl 43 _ rfl ud43 rfl inf43 rfl rfl (us' := [_, _, _, _]) rfl rfl ?_ | (refine kL 1379 rfl ?_; refine A_store_rp rfl rfl 43 _ _ rfl inf43 (by decide) rfl rfl (by exact map_get (by assumption)) rfl rfl rfl (Nat.le_of_ble_eq_true rfl) (by exact map_set (f := tWt) (x := ⟨_, _, _, _⟩)) qN ?_) | refine AL.nil ?_)) | with_reducible refine AW.at_region _ ?_ | (with_reducible (first | refine wk0 ?_ | refine wk2 ?_ | refine wk9 ?_ | refine wkb ?_ | refine wkd ?_)) | refine kcf rfl ?_)
      all_goals first | (exfalso; omega) | (exact Fin.q Try.results95 (.cons (.tmp rfl) (.cons (.tmp rfl) .nil)) [1])
    · rw [putW_no (putOk_on ha rfl), putOk_on ha rfl]
      refine Cd.enter' Try.func95 rfl Try.ntmps95 rfl ?_
      repeat' (first | ((with_reducible refine kAL ?_); (first | refine A_box rfl rfl 43 _ rfl rfl (.push qL qN) ?_ | (refine kL 1 rfl ?_; (first | refine A_as rfl rfl rfl rfl ?_ | refine A_move rfl rfl _ (.inr rfl) (y := .sl _ _ _) rfl ?_ | refine A_move rfl rfl _ (.inr rfl) (y := .nl) rfl ?_)) | (refine kL 0 rfl ?_; (first | refine A_mt rfl rfl rfl rfl ?_ | refine A_move rfl rfl _ (.inl rfl) (y := .sl _ _ _) rfl ?_ | refine A_move rfl rfl _ (.inl rfl) (y := .ln _) rfl ?_)) | (refine kL 1610 rfl ?_; refine A_cl rfl rfl Try.func50 rfl (wcopy_c l hl) ?_) | (refine kL 3626 rfl ?_; refine A_cl rfl rfl Try.func113 rfl (cA) ?_) | refine A_not rfl rfl _ _ rfl rfl ?_ | (refine kL 838 rfl ?_; refine A_idx rfl rfl 26 _ _ rfl ud26 inf43 (by decide) (by exact .inl rfl) rfl (by omega) _ (by with_reducible exact Int.toNat_natCast _) (by exact map_get (by assumption)) rfl (cs' := [_, _, _, _]) rfl ?_) | refine A_field rfl rfl 43 _ 0 rfl ud43 rfl inf4 (by decide) 0 rfl rfl ?_ | refine A_load_lp rfl rfl 4 _ rfl ud4 rfl rfl rfl ?_ | refine A_pick rfl rfl _ _ _ rfl rfl rfl rfl rfl ?_ | refine AL.nil ?_)) | with_reducible refine AW.at_region _ ?_ | (with_reducible (first | refine wk0 ?_ | refine wk2 ?_ | refine wk3 ?_ | refine wk9 ?_ | refine wkb ?_)) | refine kct rfl ?_)
      all_goals first | (exfalso; omega) | (exact Fin.q Try.results95 (.cons (.tmp rfl) (.cons (.tmp rfl) .nil)) [1])
  · have cA := at_c l t
    rw [decide_eq_false ht] at cA
    rw [putW_no (putOk_out ht), putOk_out ht]
    refine Cd.enter' Try.func95 rfl Try.ntmps95 rfl ?_
    repeat' (first | ((with_reducible refine kAL ?_); (first | refine A_box rfl rfl 43 _ rfl rfl (.push qL qN) ?_ | (refine kL 1 rfl ?_; (first | refine A_as rfl rfl rfl rfl ?_ | refine A_move rfl rfl _ (.inr rfl) (y := .sl _ _ _) rfl ?_ | refine A_move rfl rfl _ (.inr rfl) (y := .nl) rfl ?_)) | (refine kL 0 rfl ?_; (first | refine A_mt rfl rfl rfl rfl ?_ | refine A_move rfl rfl _ (.inl rfl) (y := .sl _ _ _) rfl ?_ | refine A_move rfl rfl _ (.inl rfl) (y := .ln _) rfl ?_)) | (refine kL 1610 rfl ?_; refine A_cl rfl rfl Try.func50 rfl (wcopy_c l hl) ?_) | (refine kL 3626 rfl ?_; refine A_cl rfl rfl Try.func113 rfl (cA) ?_) | refine A_not rfl rfl _ _ rfl rfl ?_ | refine A_pick rfl rfl _ _ _ rfl rfl rfl rfl rfl ?_ | refine AL.nil ?_ | refine AL.skip rfl rfl ?_)) | with_reducible refine AW.at_region _ ?_ | (with_reducible (first | refine wk0 ?_ | refine wk2 ?_ | refine wk3 ?_ | refine wk9 ?_ | refine wkb ?_)) | refine kct rfl ?_)
    all_goals first | (exfalso; omega) | (exact Fin.q Try.results95 (.cons (.tmp rfl) (.cons (.tmp rfl) .nil)) [1])
set_option maxHeartbeats 4000000 in
theorem wcut_c (l : List DWait) (t : Int) (hl : okW l) : Cd Try.prog 98 [.ln (l.map tWt), i64 t] (.tup [.sl 0 0 l.length, bo (cutOk l t)]) [.row 0 43 4 ((cutW l t).map tWt)] := by
  have h1 : (l.map tWt).length = l.length := List.length_map _
  by_cases ht : 0 ≤ t ∧ t < l.length
  · obtain ⟨n, rfl⟩ : ∃ n : Nat, t = n := ⟨t.toNat, by omega⟩
    obtain ⟨⟨on, tk, sq, cs⟩, ha⟩ : ∃ a, l[n]? = some a := ⟨_, List.getElem?_eq_getElem (by omega)⟩
    have cA := at_c l n
    rw [decide_eq_true ht] at cA
    cases on
    · rw [cutW_no (cutOk_off ha rfl), cutOk_off ha rfl]
      refine Cd.enter' Try.func98 rfl Try.ntmps98 rfl ?_
      repeat' (first | ((with_reducible refine kAL ?_); (first | (refine kL 1 rfl ?_; (first | refine A_as rfl rfl rfl rfl ?_ | refine A_move rfl rfl _ (.inr rfl) (y := .sl _ _ _) rfl ?_ | refine A_move rfl rfl _ (.inr rfl) (y := .nl) rfl ?_)) | (refine kL 0 rfl ?_; (first | refine A_mt rfl rfl rfl rfl ?_ | refine A_move rfl rfl _ (.inl rfl) (y := .sl _ _ _) rfl ?_ | refine A_move rfl rfl _ (.inl rfl) (y := .ln _) rfl ?_)) | (refine kL 1610 rfl ?_; refine A_cl rfl rfl Try.func50 rfl (wcopy_c l hl) ?_) | (refine kL 3626 rfl ?_; refine A_cl rfl rfl Try.func113 rfl (cA) ?_) | refine A_not rfl rfl _ _ rfl rfl ?_ | (refine kL 838 rfl ?_; refine A_idx rfl rfl 26 _ _ rfl ud26 inf43 (by decide) (by exact .inl rfl) rfl (by omega) _ (by with_reducible exact Int.toNat_natCast _) (by exact map_get (by assumption)) rfl (cs' := [_, _, _, _]) rfl ?_) | refine A_field rfl rfl 43 _ 0 rfl ud43 rfl inf4 (by decide) 0 rfl rfl ?_ | refine A_load_lp rfl rfl 4 _ rfl ud4 rfl rfl rfl ?_ | refine A_pick rfl rfl _ _ _ rfl rfl rfl rfl rfl ?_ | refine AL.nil ?_)) | with_reducible refine AW.at_region _ ?_ | (with_reducible (first | refine wk0 ?_ | refine wk2 ?_ | refine wk3 ?_ | refine wk9 ?_ | refine wkb ?_)) | refine kct rfl ?_)
      all_goals first | (exfalso; omega) | (exact Fin.q Try.results98 (.cons (.tmp rfl) (.cons (.tmp rfl) .nil)) [0])
    · rw [cutW_yes (cutOk_yes ha rfl), cutOk_yes ha rfl]
      refine Cd.enter' Try.func98 rfl Try.ntmps98 rfl ?_
      repeat' (first | ((with_reducible refine kAL ?_); (first | (refine kL 1390 rfl ?_; (refine A_build (d := 24) rfl rfl 43 _ rfl ud43 inf43 [(0, 1), (1, 1), (2, 1), (3, 1)] (by kernel_rfl) (zs := [.t (.v (.bool false)), .t (.v (.int .i64 0)), .t (.v (.int .i64 0)), AV.nl]) rfl .nil (cs := [_, _, _, _]) rfl ?_; (try refine AL.wk (Wk.nz 24 rfl (by exact .aggL (.cons (by exact .same _) (.cons (by exact .same _) (.cons (by exact .same _) (.cons (by exact .nlt) .nil)))))) ?_))) | (refine kL 1 rfl ?_; (first | refine A_as rfl rfl rfl rfl ?_ | refine A_move rfl rfl _ (.inr rfl) (y := .sl _ _ _) rfl ?_ | refine A_move rfl rfl _ (.inr rfl) (y := .nl) rfl ?_)) | (refine kL 0 rfl ?_; (first | refine A_mt rfl rfl rfl rfl ?_ | refine A_move rfl rfl _ (.inl rfl) (y := .sl _ _ _) rfl ?_ | refine A_move rfl rfl _ (.inl rfl) (y := .ln _) rfl ?_)) | (refine kL 1610 rfl ?_; refine A_cl rfl rfl Try.func50 rfl (wcopy_c l hl) ?_) | (refine kL 3626 rfl ?_; refine A_cl rfl rfl Try.func113 rfl (cA) ?_) | refine A_not rfl rfl _ _ rfl rfl ?_ | (refine kL 838 rfl ?_; (first | refine A_idx_sl rfl rfl 26 _ _ rfl ud26 inf43 rfl rfl (by first | exact Nat.le_refl _ | (simp <;> fail)) rfl (by omega) _ (by with_reducible exact Int.toNat_natCast _) (by omega) ?_ | refine A_idx rfl rfl 26 _ _ rfl ud26 inf43 (by decide) (by exact .inl rfl) rfl (by omega) _ (by with_reducible exact Int.toNat_natCast _) (by exact map_get (by assumption)) rfl (cs' := [_, _, _, _]) rfl ?_)) | refine A_field rfl rfl 43 _ 0 rfl ud43 rfl inf4 (by decide) 0 rfl rfl ?_ | refine A_load_lp rfl rfl 4 _ rfl ud4 rfl rfl rfl ?_ | refine A_pick rfl rfl _ _ _ rfl rfl rfl rfl rfl ?_ | (refine kL 1379 rfl ?_; refine A_store_rp rfl rfl 43 _ _ rfl inf43 (by decide) rfl rfl (by exact map_get (by assumption)) rfl rfl rfl (Nat.le_of_ble_eq_true rfl) (by exact map_set (f := tWt) (x := w0)) qN ?_) | refine AL.nil ?_)) | with_reducible refine AW.at_region _ ?_ | (with_reducible (first | refine wk0 ?_ | refine wk2 ?_ | refine wk9 ?_ | refine wkb ?_ | refine wkd ?_)) | refine kcf rfl ?_)
      all_goals first | (exfalso; omega) | (exact Fin.q Try.results98 (.cons (.tmp rfl) (.cons (.tmp rfl) .nil)) [0])
  · have cA := at_c l t
    rw [decide_eq_false ht] at cA
    rw [cutW_no (cutOk_out ht), cutOk_out ht]
    refine Cd.enter' Try.func98 rfl Try.ntmps98 rfl ?_
    repeat' (first | ((with_reducible refine kAL ?_); (first | (refine kL 1 rfl ?_; (first | refine A_as rfl rfl rfl rfl ?_ | refine A_move rfl rfl _ (.inr rfl) (y := .sl _ _ _) rfl ?_ | refine A_move rfl rfl _ (.inr rfl) (y := .nl) rfl ?_)) | (refine kL 0 rfl ?_; (first | refine A_mt rfl rfl rfl rfl ?_ | refine A_move rfl rfl _ (.inl rfl) (y := .sl _ _ _) rfl ?_ | refine A_move rfl rfl _ (.inl rfl) (y := .ln _) rfl ?_)) | (refine kL 1610 rfl ?_; refine A_cl rfl rfl Try.func50 rfl (wcopy_c l hl) ?_) | (refine kL 3626 rfl ?_; refine A_cl rfl rfl Try.func113 rfl (cA) ?_) | refine A_not rfl rfl _ _ rfl rfl ?_ | refine A_pick rfl rfl _ _ _ rfl rfl rfl rfl rfl ?_ | refine AL.nil ?_ | refine AL.skip rfl rfl ?_)) | with_reducible refine AW.at_region _ ?_ | (with_reducible (first | refine wk0 ?_ | refine wk2 ?_ | refine wk3 ?_ | refine wk9 ?_ | refine wkb ?_)) | refine kct rfl ?_)
    all_goals first | (exfalso; omega) | (exact Fin.q Try.results98 (.cons (.tmp rfl) (.cons (.tmp rfl) .nil)) [0])
end Go.Proofs.Ytphcebioiipdpaa


namespace Go.Proofs.Ytphcebioiipdpaa
set_option linter.unusedVariables false
set_option linter.unusedSimpArgs false
set_option linter.unnecessarySimpa false
open Go.RowKit
set_option maxHeartbeats 32000000
attribute [local irreducible] AL AW RG Fin C Cd Cio thenQ blockQ retQ
set_option maxRecDepth 100000
set_option maxHeartbeats 4000000 in
theorem idxF_c (f : FuncId) (fi cap : List AV) (p : DCase → Bool) (hg : ∀ c : DCase, CV Try.prog (.fn (.func f) fi cap) [.agg ((tCs c).map .t)] (.t (.v (.bool (p c)))) []) (hup : upB (keepG 0) (.fn (.func f) fi cap) = .fn (.func f) fi cap)
    (l : List DCase) (hl : l.length ≤ 1152921504606846976) : Cd Try.prog 104 [.ln (l.map tCs), .fn (.func f) fi cap] (i64 (ixF p l)) [] := by
  have h1 : (l.map tCs).length = l.length := List.length_map _
  refine Cd.enter' Try.func104 rfl Try.ntmps104 rfl ?_
  repeat' (first | ((with_reducible refine kAL ?_); (first | refine A_as rfl rfl rfl rfl ?_ | (refine kL 0 rfl ?_; (first | refine A_mt rfl rfl rfl rfl ?_ | refine A_move rfl rfl _ (.inl rfl) (y := .ln _) rfl ?_)) | refine A_len rfl rfl 30 _ rfl ud30 rfl ?_ | refine AL.nil ?_)) | with_reducible refine AW.at_region _ ?_ | (with_reducible (first | refine wk0 ?_ | refine wk1 ?_ | refine wk2 ?_)))
  refine AW.loopP (fun (q : Nat) => q ≤ l.length ∧ ∀ j, j < q → ∀ b, l[j]? = some b → p b = false) (fun (q : Nat) => (pu (pu (pu (pu (fun _ => .any) 0 (.ln (l.map tCs))) 1 (.fn (.func f) fi cap)) 7 (i64 (l.map tCs).length)) 8 (i64 q))) (fun (q : Nat) => []) (fun (q : Nat) => l.length - q) (0) ?_ ?_ ?_
  · exact ⟨Nat.zero_le _, fun j hj => by omega⟩
  · exact Wk.cq 0
  · rintro q ⟨h2, h3⟩
    by_cases hq : q < l.length
    · obtain ⟨a, ha⟩ : ∃ a, l[q]? = some a := ⟨_, List.getElem?_eq_getElem hq⟩
      have c1 := hg a
      cases hp : p a
      · rw [hp] at c1
        repeat' (first | ((with_reducible refine kAL ?_); (first | refine A_as rfl rfl rfl rfl ?_ | (refine kL 0 rfl ?_; (first | refine A_mt rfl rfl rfl rfl ?_ | refine A_move rfl rfl _ (.inl rfl) (y := .ln _) rfl ?_ | refine A_move rfl rfl _ (.inl rfl) (y := .fn _ _ _) rfl ?_)) | (refine kL 105 rfl ?_; (first | refine A_cmp (d := 9) rfl rfl (c := true) .lss 3 3 _ _ rfl rfl rfl (by exact congrArg some (decide_eq_true (by (try (dsimp only; fail_if_success done)); omega))) ?_ | refine A_add rfl rfl 3 3 _ _ rfl rfl rfl (by exact wi) ?_)) | (refine kL 966 rfl ?_; refine A_idx rfl rfl 30 _ _ rfl ud30 inf45 (by decide) (by exact .inl rfl) rfl (by omega) _ (by with_reducible exact Int.toNat_natCast _) (by exact map_get (by assumption)) rfl (cs' := [_, _, _]) rfl ?_) | refine A_load_lp_agg rfl rfl 45 _ rfl ud45 rfl inf45 rfl (us' := [_, _, _]) rfl rfl ?_ | (refine kL 11 rfl ?_; refine A_callv rfl rfl rfl rfl (c1) (by ((repeat (first | exact .nil | refine .cons ?_ ?_ | exact .t _ | refine .aggL ?_)); (first | done | fail))) qL qU qU qN ?_) | refine AL.nil ?_)) | with_reducible refine AW.at_region _ ?_ | (with_reducible (first | refine wk0 ?_ | refine wk1 ?_ | refine wk2 ?_ | refine wk5 ?_ | refine wkd ?_)) | refine kct rfl ?_ | refine kcf rfl ?_)
        all_goals first | (exfalso; omega) | skip
        refine ⟨q + 1, ⟨by omega, fun j hj b hb => ?_⟩, by omega, ?_⟩
        · by_cases e : j = q
          · subst e; rw [ha] at hb; cases hb; exact hp
          · exact h3 j (by omega) b hb
        · exact Wk.cq 0
      · rw [hp] at c1
        rw [ixF_at p l q a h3 ha hp]
        repeat' (first | ((with_reducible refine kAL ?_); (first | refine A_as rfl rfl rfl rfl ?_ | (refine kL 0 rfl ?_; (first | refine A_mt rfl rfl rfl rfl ?_ | refine A_move rfl rfl _ (.inl rfl) (y := .ln _) rfl ?_ | refine A_move rfl rfl _ (.inl rfl) (y := .fn _ _ _) rfl ?_)) | refine A_cmp (d := 9) rfl rfl (c := true) .lss 3 3 _ _ rfl rfl rfl (by exact congrArg some (decide_eq_true (by (try (dsimp only; fail_if_success done)); omega))) ?_ | (refine kL 966 rfl ?_; refine A_idx rfl rfl 30 _ _ rfl ud30 inf45 (by decide) (by exact .inl rfl) rfl (by omega) _ (by with_reducible exact Int.toNat_natCast _) (by exact map_get (by assumption)) rfl (cs' := [_, _, _]) rfl ?_) | refine A_load_lp_agg rfl rfl 45 _ rfl ud45 rfl inf45 rfl (us' := [_, _, _]) rfl rfl ?_ | (refine kL 11 rfl ?_; refine A_callv rfl rfl rfl rfl (c1) (by ((repeat (first | exact .nil | refine .cons ?_ ?_ | exact .t _ | refine .aggL ?_)); (first | done | fail))) qL qU qU qN ?_) | refine AL.nil ?_)) | with_reducible refine AW.at_region _ ?_ | (with_reducible (first | refine wk0 ?_ | refine wk1 ?_ | refine wk2 ?_ | refine wk3 ?_ | refine wk6 ?_ | refine wk9 ?_ | refine wkb ?_ | refine wkd ?_)) | refine kct rfl ?_)
        all_goals first | (exfalso; omega) | (exact Fin.q Try.results104 (.cons (.tmp rfl) .nil) [])
    · rw [ixF_none p l fun j b hb => h3 j (by have := get_lt hb; omega) b hb]
      repeat' (first | ((with_reducible refine kAL ?_); (first | refine A_as rfl rfl rfl rfl ?_ | refine A_cmp (d := 9) rfl rfl (c := false) .lss 3 3 _ _ rfl rfl rfl (by exact congrArg some (decide_eq_false (by (try (dsimp only; fail_if_success done)); omega))) ?_ | refine AL.nil ?_)) | with_reducible refine AW.at_region _ ?_ | (with_reducible (first | refine wk0 ?_ | refine wk2 ?_ | refine wk4 ?_ | refine wk7 ?_ | refine wk9 ?_ | refine wkb ?_ | refine wkc ?_)) | refine kcf rfl ?_)
      all_goals first | (exfalso; omega) | (exact Fin.q Try.results104 (.cons (.tmp rfl) .nil) [])
theorem has1_c (d h : Int) (c : DCase) : Cd Try.prog 125 [.agg ((tCs c).map .t), .lp [i64 d], .lp [i64 h]] (bo (isC d h c)) [] := by
  obtain ⟨a, b, v⟩ := c
  by_cases p1 : a = d <;> by_cases p2 : b = h
  all_goals
    refine Cd.enter' Try.func125 rfl Try.ntmps125 rfl ?_
    repeat' (first | ((with_reducible refine kAL ?_); (first | refine A_box rfl rfl 45 _ rfl rfl (.push qL qN) ?_ | refine A_as rfl rfl rfl rfl ?_ | (refine kL 1444 rfl ?_; (first | refine A_field rfl rfl 45 _ 0 rfl ud45 rfl inf3 (by decide) 0 rfl rfl ?_ | refine A_field rfl rfl 45 _ 1 rfl ud45 rfl inf3 (by decide) 1 rfl rfl ?_)) | (refine kL 98 rfl ?_; (first | refine A_load rfl rfl 3 _ rfl ud3 rfl rfl rfl rfl ?_ | refine A_load_lp rfl rfl 3 _ rfl ud3 rfl rfl rfl ?_)) | (refine kL 105 rfl ?_; (first | refine A_cmp (d := 8) rfl rfl (c := true) .eql 3 3 _ _ rfl rfl rfl (by exact congrArg some (decide_eq_true (by (try (dsimp only; fail_if_success done)); omega))) ?_ | refine A_cmp (d := 8) rfl rfl (c := false) .eql 3 3 _ _ rfl rfl rfl (by exact congrArg some (decide_eq_false (by (try (dsimp only; fail_if_success done)); omega))) ?_ | refine A_cmp (d := 13) rfl rfl (c := true) .eql 3 3 _ _ rfl rfl rfl (by exact congrArg some (decide_eq_true (by (try (dsimp only; fail_if_success done)); omega))) ?_ | refine A_cmp (d := 13) rfl rfl (c := false) .eql 3 3 _ _ rfl rfl rfl (by exact congrArg some (decide_eq_false (by (try (dsimp only; fail_if_success done)); omega))) ?_)) | refine A_mt rfl rfl rfl rfl ?_ | refine A_pick rfl rfl _ _ _ rfl rfl rfl rfl rfl ?_ | refine AL.nil ?_ | refine AL.skip rfl rfl ?_)) | with_reducible refine AW.at_region _ ?_ | (with_reducible (first | refine wk0 ?_ | refine wk2 ?_ | refine wk9 ?_ | refine wkb ?_)))
    all_goals first | (exfalso; omega) | (refine Fin.q Try.results125 (.cons (.tmp rfl) .nil) [] (hr := (.t ?_)))
    all_goals first | (simp [isC, *]; done) | skip
theorem whas_c (w : DWait) (d h : Int) (hw : w.cases.length ≤ 1152921504606846976) : Cd Try.prog 120 [.agg [bo w.on, i64 w.ticket, i64 w.seq, .ln (w.cases.map tCs)], i64 d, i64 h] (.tup [i64 (max (ixF (isC d h) w.cases) 0), bo (decide (0 ≤ ixF (isC d h) w.cases) && w.on)]) [] := by
  have c1 := idxF_c 125 [] [.lp [i64 d], .lp [i64 h]] (isC d h) (fun c => ⟨_, _, [], [.lp [i64 d], .lp [i64 h]], rfl, Try.func125, by kernel_rfl, by kernel_rfl, fun _ => .nil, fun _ => .cons (.lpL (.cons (.t _) .nil)) (.cons (.lpL (.cons (.t _) .nil)) .nil), has1_c d h c⟩) rfl w.cases hw
  obtain ⟨on, tk, sq, cs⟩ := w
  dsimp only at c1 hw ⊢
  generalize ixF (isC d h) cs = z at c1 ⊢
  by_cases hz : 0 ≤ z
  all_goals
    cases on
    all_goals
      refine Cd.enter' Try.func120 rfl Try.ntmps120 rfl ?_
      repeat' (first | ((with_reducible refine kAL ?_); (first | refine A_box rfl rfl 43 _ rfl rfl (.push qL qN) ?_ | refine A_box rfl rfl 3 _ rfl rfl (.push qL qN) ?_ | refine A_as rfl rfl rfl rfl ?_ | refine A_field rfl rfl 43 _ 3 rfl ud43 rfl inf30 (by decide) 3 rfl rfl ?_ | refine A_load rfl rfl 30 _ rfl ud30 rfl rfl rfl rfl ?_ | (refine kL 21 rfl ?_; refine A_fn rfl rfl _ _ _ rfl .nil (.cons rfl (.cons rfl .nil)) ?_) | (refine kL 3338 rfl ?_; refine A_cl rfl rfl Try.func104 rfl (c1) ?_) | refine AL.nil ?_)) | ((with_reducible refine kRG ?_); (first | refine R_mt rfl rfl rfl rfl ?_ | (refine kR 12 rfl ?_; refine R_max rfl rfl _ _ _ rfl rfl rfl ?_) | (refine kR 105 rfl ?_; (first | refine R_cmp (d := 16) rfl rfl (c := true) .geq 3 3 _ _ rfl rfl rfl (by exact congrArg some (decide_eq_true (by (try (dsimp only; fail_if_success done)); omega))) ?_ | refine R_cmp (d := 16) rfl rfl (c := false) .geq 3 3 _ _ rfl rfl rfl (by exact congrArg some (decide_eq_false (by (try (dsimp only; fail_if_success done)); omega))) ?_)) | refine R_field rfl rfl 43 _ 0 rfl ud43 rfl inf4 (by decide) 0 rfl rfl ?_ | refine R_load rfl rfl 4 _ rfl ud4 rfl rfl rfl rfl ?_ | refine R_pick rfl rfl _ _ _ rfl rfl rfl rfl rfl ?_ | refine R_as rfl rfl rfl rfl ?_ | refine RG.nil ⟨by kernel_rfl, ?_⟩ | refine R_skip rfl rfl ?_)) | (with_reducible (first | refine wk0 ?_ | refine wk2 ?_ | refine wk9 ?_ | refine wkb ?_)) | with_reducible refine AW.at_region _ ?_ | refine AW.at_draw 2 mixed 0 [[], [0], [], [2], [2, 3], [2, 3, 4], [2, 3, 4, 5], [2, 3, 4, 5, 6], [0, 1, 2, 3, 4], [0, 1, 2, 3, 4, 5, 6, 7, 8]] qR ?_)
      all_goals first | (exfalso; omega) | (refine Fin.q Try.results120 (.cons (.tmp rfl) (.cons (.tmp rfl) .nil)) [] (hr := (.tupL (.cons (.t ?_) (.cons (.t ?_) .nil)))))
      all_goals first | (simp [*]; done) | skip
theorem firK_next {l : List DWait} {d h : Int} {k : Nat} {a : DWait} (ha : l[k]? = some a) : firK l d h (k + 1) = if a.on = true ∧ 0 ≤ ixF (isC d h) a.cases ∧ ((firK l d h k).ok = false ∨ a.ticket < (l.getD (firK l d h k).th.toNat default).ticket) then ⟨k, ixF (isC d h) a.cases, true⟩ else firK l d h k := by
  rw [firK, getD_of ha]
def fir (l : List DWait) (d h : Int) : FS := firK l d h l.length
set_option maxHeartbeats 8000000 in
theorem first_c (l : List DWait) (d h : Int) (hl : okW l) : Cd Try.prog 111 [.ln (l.map tWt), i64 d, i64 h] (.tup [i64 (fir l d h).th, i64 (fir l d h).wh, bo (fir l d h).ok]) [] := by
  have h0 := hl.1
  have h1 : (l.map tWt).length = l.length := List.length_map _
  first | refine Cd.enter' Try.func111 rfl Try.ntmps111 rfl ?_ | refine Cio.enter' Try.func111 rfl Try.ntmps111 rfl qM ?_ | refine C.enter' Try.func111 rfl Try.ntmps111 rfl qM ?_
  repeat' (first | ((with_reducible refine kAL ?_); (first | refine A_as rfl rfl rfl rfl ?_ | (refine kL 0 rfl ?_; (first | refine A_mt rfl rfl rfl rfl ?_ | refine A_move rfl rfl _ (.inl rfl) (y := .ln _) rfl ?_)) | refine A_len rfl rfl 26 _ rfl ud26 rfl ?_ | refine AL.nil ?_)) | (with_reducible (first | refine wk0 ?_ | refine wk1 ?_ | refine wk2 ?_)) | with_reducible refine AW.at_region _ ?_)
  refine AW.loopP (fun (x : Nat × FS) => x.1 ≤ l.length ∧ x.2 = firK l d h x.1) (fun (x : Nat × FS) => (pu (pu (pu (pu (pu (pu (pu (pu (pu (fun _ => .any) 0 (.ln (l.map tWt))) 1 (i64 d)) 2 (i64 h)) 6 (i64 x.2.th)) 7 (i64 x.2.wh)) 8 (bo x.2.ok)) 13 (.ln (l.map tWt))) 14 (i64 (l.map tWt).length)) 15 (i64 x.1))) (fun (x : Nat × FS) => []) (fun (x : Nat × FS) => l.length - x.1) ((0, ⟨0, 0, false⟩)) ?_ ?_ ?_
  · exact ⟨Nat.zero_le _, rfl⟩
  · exact Wk.cq 0
  · rintro ⟨q, s⟩ ⟨h2, h3⟩
    dsimp only at h2 h3 ⊢
    by_cases hq : q < l.length
    · obtain ⟨a, ha⟩ : ∃ a, l[q]? = some a := ⟨_, List.getElem?_eq_getElem hq⟩
      have hn := firK_next (d := d) (h := h) ha
      have hk := firK_ok l d h q
      rw [← h3] at hn hk
      have cH := whas_c a d h (by have := hl.at ha; omega)
      obtain ⟨th, wh, ok⟩ := s
      dsimp only at hn hk ⊢
      by_cases hc1 : a.on = true ∧ 0 ≤ ixF (isC d h) a.cases
      · rw [show (decide (0 ≤ ixF (isC d h) a.cases) && a.on) = true by rw [decide_eq_true hc1.2, hc1.1]; rfl, Int.max_eq_left hc1.2] at cH
        cases ok
        · rw [if_pos ⟨hc1.1, hc1.2, .inl rfl⟩] at hn
          repeat' (first | ((with_reducible refine kAL ?_); (first | refine A_as rfl rfl rfl rfl ?_ | (refine kL 0 rfl ?_; (first | refine A_mt rfl rfl rfl rfl ?_ | refine A_move rfl rfl _ (.inl rfl) (y := .tup _) rfl ?_)) | (refine kL 105 rfl ?_; (first | refine A_cmp (d := 16) rfl rfl (c := true) .lss 3 3 _ _ rfl rfl rfl (by exact congrArg some (decide_eq_true (by (try (dsimp only; fail_if_success done)); omega))) ?_ | refine A_add rfl rfl 3 3 _ _ rfl rfl rfl (by exact wi) ?_)) | (refine kL 838 rfl ?_; refine A_idx rfl rfl 26 _ _ rfl ud26 inf43 (by decide) (by exact .inl rfl) rfl (by omega) _ (by with_reducible exact Int.toNat_natCast _) (by exact map_get (by assumption)) rfl (cs' := [_, _, _, _]) rfl ?_) | (refine kL 1378 rfl ?_; (first | refine A_load_agg rfl rfl 43 _ rfl ud43 rfl inf43 rfl rfl (us' := [_, _, _, _]) rfl rfl ?_ | refine A_load_lp_agg rfl rfl 43 _ rfl ud43 rfl inf43 rfl (us' := [_, _, _, _]) rfl rfl ?_)) | refine A_alloc rfl rfl 43 rfl inf43 (cs := [.t (.v (.bool false)), .t (.v (.int .i64 0)), .t (.v (.int .i64 0)), AV.nl]) rfl (.push qL qN) ?_ | refine A_store rfl rfl 43 _ _ rfl inf43 rfl rfl rfl rfl (Nat.le_of_ble_eq_true rfl) qN qN ?_ | (refine kL 3850 rfl ?_; refine A_cl rfl rfl Try.func120 rfl (cH) ?_) | (refine kL 18 rfl ?_; (first | refine A_extract rfl rfl _ 0 rfl rfl rfl ?_ | refine A_extract rfl rfl _ 1 rfl rfl rfl ?_)) | refine AL.nil ?_)) | ((with_reducible refine kRG ?_); (first | refine R_mt rfl rfl rfl rfl ?_ | refine R_not rfl rfl _ _ rfl rfl ?_ | refine R_pick rfl rfl _ _ _ rfl rfl rfl rfl rfl ?_ | refine RG.nil ⟨by kernel_rfl, ?_⟩ | refine R_skip rfl rfl ?_)) | (with_reducible (first | refine wk0 ?_ | refine wk1 ?_ | refine wk2 ?_ | refine wk5 ?_ | refine wkd ?_)) | refine kct rfl ?_ | with_reducible refine AW.at_region _ ?_ | refine AW.at_draw 5 mixed 0 [[], [0], [0, 1], [0, 1, 2], [0, 1, 2, 3], [0, 1, 2, 3, 4], [0, 1, 2, 3, 4, 5], [0, 1, 2, 3, 4], [0, 1, 2, 3, 4], [0, 1, 2, 3, 4, 7, 8], [0, 1, 2, 3, 4, 7, 8, 9], [0, 1, 2, 3, 4, 7, 8, 9, 10], [0, 1, 2, 3, 4, 5, 6, 7, 8, 9, 10, 11], [0, 1, 2, 3, 4, 5, 6, 7, 8, 9, 10, 11, 12], [0, 1, 2, 3, 4, 5, 6, 7, 8, 9, 10, 11, 12, 13]] qR ?_)
          all_goals first | (exfalso; omega) | (refine ⟨(q + 1, ⟨q, ixF (isC d h) a.cases, true⟩), ⟨by dsimp only; omega, hn.symm⟩, by dsimp only; omega, ?_⟩; (exact Wk.cq 0); done)
        · rcases hk with ⟨hk, _⟩ | ⟨_, t, rfl, ht, ho, hw, hwn⟩
          · cases hk
          · obtain ⟨b, hb⟩ : ∃ b, l[t]? = some b := ⟨_, List.getElem?_eq_getElem (by omega)⟩
            rw [Int.toNat_natCast, getD_of hb] at hn
            by_cases htk : a.ticket < b.ticket
            · rw [if_pos ⟨hc1.1, hc1.2, .inr htk⟩] at hn
              repeat' (first | ((with_reducible refine kAL ?_); (first | refine A_as rfl rfl rfl rfl ?_ | (refine kL 0 rfl ?_; (first | refine A_mt rfl rfl rfl rfl ?_ | refine A_move rfl rfl _ (.inl rfl) (y := .tup _) rfl ?_)) | (refine kL 105 rfl ?_; (first | refine A_cmp (d := 16) rfl rfl (c := true) .lss 3 3 _ _ rfl rfl rfl (by exact congrArg some (decide_eq_true (by (try (dsimp only; fail_if_success done)); omega))) ?_ | refine A_add rfl rfl 3 3 _ _ rfl rfl rfl (by exact wi) ?_)) | (refine kL 838 rfl ?_; refine A_idx rfl rfl 26 _ _ rfl ud26 inf43 (by decide) (by exact .inl rfl) rfl (by omega) _ (by with_reducible exact Int.toNat_natCast _) (by exact map_get (by assumption)) rfl (cs' := [_, _, _, _]) rfl ?_) | (refine kL 1378 rfl ?_; (first | refine A_load_agg rfl rfl 43 _ rfl ud43 rfl inf43 rfl rfl (us' := [_, _, _, _]) rfl rfl ?_ | refine A_load_lp_agg rfl rfl 43 _ rfl ud43 rfl inf43 rfl (us' := [_, _, _, _]) rfl rfl ?_)) | refine A_alloc rfl rfl 43 rfl inf43 (cs := [.t (.v (.bool false)), .t (.v (.int .i64 0)), .t (.v (.int .i64 0)), AV.nl]) rfl (.push qL qN) ?_ | refine A_store rfl rfl 43 _ _ rfl inf43 rfl rfl rfl rfl (Nat.le_of_ble_eq_true rfl) qN qN ?_ | (refine kL 3850 rfl ?_; refine A_cl rfl rfl Try.func120 rfl (cH) ?_) | (refine kL 18 rfl ?_; (first | refine A_extract rfl rfl _ 0 rfl rfl rfl ?_ | refine A_extract rfl rfl _ 1 rfl rfl rfl ?_)) | refine AL.nil ?_)) | ((with_reducible refine kRG ?_); (first | (refine kR 0 rfl ?_; (first | refine R_mt rfl rfl rfl rfl ?_ | refine R_move rfl rfl _ (.inl rfl) (y := .ln _) rfl ?_)) | refine R_not rfl rfl _ _ rfl rfl ?_ | refine R_field rfl rfl 43 _ 1 rfl ud43 rfl inf3 (by decide) 1 rfl rfl ?_ | (refine kR 98 rfl ?_; (first | refine R_load rfl rfl 3 _ rfl ud3 rfl rfl rfl rfl ?_ | refine R_load_lp rfl rfl 3 _ rfl ud3 rfl rfl rfl ?_)) | (refine kR 838 rfl ?_; refine R_idx rfl rfl 26 _ _ rfl ud26 inf43 (by decide) (by exact .inl rfl) rfl (by omega) _ (by with_reducible exact Int.toNat_natCast _) (by exact map_get (by assumption)) rfl (cs' := [_, _, _, _]) rfl ?_) | refine R_cmp (d := 39) rfl rfl (c := true) .lss 3 3 _ _ rfl rfl rfl (by exact congrArg some (decide_eq_true (by (try (dsimp only; fail_if_success done)); omega))) ?_ | refine R_pick rfl rfl _ _ _ rfl rfl rfl rfl rfl ?_ | refine RG.nil ⟨by kernel_rfl, ?_⟩)) | (with_reducible (first | refine wk0 ?_ | refine wk1 ?_ | refine wk2 ?_ | refine wk5 ?_ | refine wkd ?_)) | refine kct rfl ?_ | with_reducible refine AW.at_region _ ?_ | refine AW.at_draw 5 mixed 0 [[], [0], [0, 1], [0, 1, 2], [0, 1, 2, 3], [0, 1, 2, 3, 4], [0, 1, 2, 3, 4, 5], [0, 1, 2, 3, 4], [0, 1, 2, 3, 4], [0, 1, 2, 3, 4, 7, 8], [0, 1, 2, 3, 4, 7, 8, 9], [0, 1, 2, 3, 4, 7, 8, 9, 10], [0, 1, 2, 3, 4, 5, 6, 7, 8, 9, 10, 11], [0, 1, 2, 3, 4, 5, 6, 7, 8, 9, 10, 11, 12], [0, 1, 2, 3, 4, 5, 6, 7, 8, 9, 10, 11, 12, 13]] qR ?_)
              all_goals first | (exfalso; omega) | (refine ⟨(q + 1, ⟨q, ixF (isC d h) a.cases, true⟩), ⟨by dsimp only; omega, hn.symm⟩, by dsimp only; omega, ?_⟩; (exact Wk.cq 0); done)
            · rw [if_neg (fun k => by have := k.2.2; simp [htk] at this)] at hn
              repeat' (first | ((with_reducible refine kAL ?_); (first | refine A_as rfl rfl rfl rfl ?_ | (refine kL 0 rfl ?_; (first | refine A_mt rfl rfl rfl rfl ?_ | refine A_move rfl rfl _ (.inl rfl) (y := .tup _) rfl ?_)) | (refine kL 105 rfl ?_; (first | refine A_cmp (d := 16) rfl rfl (c := true) .lss 3 3 _ _ rfl rfl rfl (by exact congrArg some (decide_eq_true (by (try (dsimp only; fail_if_success done)); omega))) ?_ | refine A_add rfl rfl 3 3 _ _ rfl rfl rfl (by exact wi) ?_)) | (refine kL 838 rfl ?_; refine A_idx rfl rfl 26 _ _ rfl ud26 inf43 (by decide) (by exact .inl rfl) rfl (by omega) _ (by with_reducible exact Int.toNat_natCast _) (by exact map_get (by assumption)) rfl (cs' := [_, _, _, _]) rfl ?_) | (refine kL 1378 rfl ?_; (first | refine A_load_agg rfl rfl 43 _ rfl ud43 rfl inf43 rfl rfl (us' := [_, _, _, _]) rfl rfl ?_ | refine A_load_lp_agg rfl rfl 43 _ rfl ud43 rfl inf43 rfl (us' := [_, _, _, _]) rfl rfl ?_)) | refine A_alloc rfl rfl 43 rfl inf43 (cs := [.t (.v (.bool false)), .t (.v (.int .i64 0)), .t (.v (.int .i64 0)), AV.nl]) rfl (.push qL qN) ?_ | refine A_store rfl rfl 43 _ _ rfl inf43 rfl rfl rfl rfl (Nat.le_of_ble_eq_true rfl) qN qN ?_ | (refine kL 3850 rfl ?_; refine A_cl rfl rfl Try.func120 rfl (cH) ?_) | (refine kL 18 rfl ?_; (first | refine A_extract rfl rfl _ 0 rfl rfl rfl ?_ | refine A_extract rfl rfl _ 1 rfl rfl rfl ?_)) | refine AL.nil ?_)) | ((with_reducible refine kRG ?_); (first | (refine kR 0 rfl ?_; (first | refine R_mt rfl rfl rfl rfl ?_ | refine R_move rfl rfl _ (.inl rfl) (y := .ln _) rfl ?_)) | refine R_not rfl rfl _ _ rfl rfl ?_ | refine R_field rfl rfl 43 _ 1 rfl ud43 rfl inf3 (by decide) 1 rfl rfl ?_ | (refine kR 98 rfl ?_; (first | refine R_load rfl rfl 3 _ rfl ud3 rfl rfl rfl rfl ?_ | refine R_load_lp rfl rfl 3 _ rfl ud3 rfl rfl rfl ?_)) | (refine kR 838 rfl ?_; refine R_idx rfl rfl 26 _ _ rfl ud26 inf43 (by decide) (by exact .inl rfl) rfl (by omega) _ (by with_reducible exact Int.toNat_natCast _) (by exact map_get (by assumption)) rfl (cs' := [_, _, _, _]) rfl ?_) | refine R_cmp (d := 39) rfl rfl (c := false) .lss 3 3 _ _ rfl rfl rfl (by exact congrArg some (decide_eq_false (by (try (dsimp only; fail_if_success done)); omega))) ?_ | refine R_pick rfl rfl _ _ _ rfl rfl rfl rfl rfl ?_ | refine RG.nil ⟨by kernel_rfl, ?_⟩)) | (with_reducible (first | refine wk0 ?_ | refine wk1 ?_ | refine wk2 ?_ | refine wk5 ?_ | refine wkd ?_)) | refine kct rfl ?_ | refine kcf rfl ?_ | with_reducible refine AW.at_region _ ?_ | refine AW.at_draw 5 mixed 0 [[], [0], [0, 1], [0, 1, 2], [0, 1, 2, 3], [0, 1, 2, 3, 4], [0, 1, 2, 3, 4, 5], [0, 1, 2, 3, 4], [0, 1, 2, 3, 4], [0, 1, 2, 3, 4, 7, 8], [0, 1, 2, 3, 4, 7, 8, 9], [0, 1, 2, 3, 4, 7, 8, 9, 10], [0, 1, 2, 3, 4, 5, 6, 7, 8, 9, 10, 11], [0, 1, 2, 3, 4, 5, 6, 7, 8, 9, 10, 11, 12], [0, 1, 2, 3, 4, 5, 6, 7, 8, 9, 10, 11, 12, 13]] qR ?_)
              all_goals first | (exfalso; omega) | (refine ⟨(q + 1, ⟨t, wh, true⟩), ⟨by dsimp only; omega, hn.symm⟩, by dsimp only; omega, ?_⟩; (exact Wk.cq 0); done)
      · rw [if_neg (fun k => hc1 ⟨k.1, k.2.1⟩)] at hn
        rw [show (decide (0 ≤ ixF (isC d h) a.cases) && a.on) = false by
          cases ha2 : a.on
          · simp
          · rw [decide_eq_false (fun k => hc1 ⟨ha2, k⟩)]; rfl] at cH
        cases ok
        all_goals
          repeat' (first | ((with_reducible refine kAL ?_); (first | refine A_as rfl rfl rfl rfl ?_ | (refine kL 0 rfl ?_; (first | refine A_mt rfl rfl rfl rfl ?_ | refine A_move rfl rfl _ (.inl rfl) (y := .tup _) rfl ?_)) | (refine kL 105 rfl ?_; (first | refine A_cmp (d := 16) rfl rfl (c := true) .lss 3 3 _ _ rfl rfl rfl (by exact congrArg some (decide_eq_true (by (try (dsimp only; fail_if_success done)); omega))) ?_ | refine A_add rfl rfl 3 3 _ _ rfl rfl rfl (by exact wi) ?_)) | (refine kL 838 rfl ?_; refine A_idx rfl rfl 26 _ _ rfl ud26 inf43 (by decide) (by exact .inl rfl) rfl (by omega) _ (by with_reducible exact Int.toNat_natCast _) (by exact map_get (by assumption)) rfl (cs' := [_, _, _, _]) rfl ?_) | (refine kL 1378 rfl ?_; (first | refine A_load_agg rfl rfl 43 _ rfl ud43 rfl inf43 rfl rfl (us' := [_, _, _, _]) rfl rfl ?_ | refine A_load_lp_agg rfl rfl 43 _ rfl ud43 rfl inf43 rfl (us' := [_, _, _, _]) rfl rfl ?_)) | refine A_alloc rfl rfl 43 rfl inf43 (cs := [.t (.v (.bool false)), .t (.v (.int .i64 0)), .t (.v (.int .i64 0)), AV.nl]) rfl (.push qL qN) ?_ | refine A_store rfl rfl 43 _ _ rfl inf43 rfl rfl rfl rfl (Nat.le_of_ble_eq_true rfl) qN qN ?_ | (refine kL 3850 rfl ?_; refine A_cl rfl rfl Try.func120 rfl (cH) ?_) | (refine kL 18 rfl ?_; (first | refine A_extract rfl rfl _ 0 rfl rfl rfl ?_ | refine A_extract rfl rfl _ 1 rfl rfl rfl ?_)) | refine AL.nil ?_)) | ((with_reducible refine kRG ?_); (first | refine R_mt rfl rfl rfl rfl ?_ | refine R_pick rfl rfl _ _ _ rfl rfl rfl rfl rfl ?_ | refine RG.nil ⟨by kernel_rfl, ?_⟩ | refine R_skip rfl rfl ?_)) | (with_reducible (first | refine wk0 ?_ | refine wk1 ?_ | refine wk2 ?_ | refine wk5 ?_ | refine wkd ?_)) | refine kct rfl ?_ | refine kcf rfl ?_ | with_reducible refine AW.at_region _ ?_ | refine AW.at_draw 5 mixed 0 [[], [0], [0, 1], [0, 1, 2], [0, 1, 2, 3], [0, 1, 2, 3, 4], [0, 1, 2, 3, 4, 5], [0, 1, 2, 3, 4], [0, 1, 2, 3, 4], [0, 1, 2, 3, 4, 7, 8], [0, 1, 2, 3, 4, 7, 8, 9], [0, 1, 2, 3, 4, 7, 8, 9, 10], [0, 1, 2, 3, 4, 5, 6, 7, 8, 9, 10, 11], [0, 1, 2, 3, 4, 5, 6, 7, 8, 9, 10, 11, 12], [0, 1, 2, 3, 4, 5, 6, 7, 8, 9, 10, 11, 12, 13]] qR ?_)
          all_goals first | (exfalso; omega) | (refine ⟨(q + 1, ⟨th, wh, _⟩), ⟨by dsimp only; omega, hn.symm⟩, by dsimp only; omega, ?_⟩; (exact Wk.cq 0); done)
    · have e : q = l.length := by omega
      subst e
      subst h3
      repeat' (first | ((with_reducible refine kAL ?_); (first | refine A_as rfl rfl rfl rfl ?_ | refine A_mt rfl rfl rfl rfl ?_ | refine A_cmp (d := 16) rfl rfl (c := false) .lss 3 3 _ _ rfl rfl rfl (by exact congrArg some (decide_eq_false (by (try (dsimp only; fail_if_success done)); omega))) ?_ | refine AL.nil ?_)) | (with_reducible (first | refine wk0 ?_ | refine wk2 ?_ | refine wk4 ?_ | refine wk7 ?_ | refine wk9 ?_ | refine wkb ?_ | refine wkc ?_)) | refine kcf rfl ?_ | with_reducible refine AW.at_region _ ?_)
      all_goals first | (exfalso; omega) | (exact Fin.q Try.results111 (.cons (.tmp rfl) (.cons (.tmp rfl) (.cons (.tmp rfl) .nil))) [])
end Go.Proofs.Ytphcebioiipdpaa


namespace Go.Proofs.Ytphcebioiipdpaa
set_option linter.unusedVariables false
set_option linter.unusedSimpArgs false
set_option linter.unnecessarySimpa false
open Go.RowKit
set_option maxHeartbeats 32000000
attribute [local irreducible] AL AW RG Fin C Cd Cio thenQ blockQ retQ
set_option maxRecDepth 100000
end Go.Proofs.Ytphcebioiipdpaa


namespace Go.Proofs.Ytphcebioiipdpaa
set_option linter.unusedVariables false
set_option linter.unusedSimpArgs false
set_option linter.unnecessarySimpa false
variable {α : Type} {key : α → Int}
def insS (key : α → Int) (x : α) : List α → List α
  | [] => [x]
  | y :: s => if key x < key y then x :: y :: s else y :: insS key x s
def isort (key : α → Int) (l : List α) : List α := l.foldl (fun s x => insS key x s) []
def srtd (key : α → Int) (l : List α) : Prop := l.Pairwise fun a b => key a ≤ key b
theorem insS_mem {x z : α} : ∀ {s : List α}, z ∈ insS key x s ↔ z = x ∨ z ∈ s
  | [] => by simp [insS]
  | y :: s => by
    unfold insS
    split
    · simp
    · simp only [List.mem_cons, insS_mem (s := s)]
      constructor
      · rintro (h | h | h) <;> simp [h]
      · rintro (h | h | h) <;> simp [h]
theorem insS_len {x : α} : ∀ {s : List α}, (insS key x s).length = s.length + 1
  | [] => rfl
  | y :: s => by
    unfold insS
    split
    · simp
    · simp [insS_len (s := s)]
theorem insS_srtd {x : α} : ∀ {s : List α}, srtd key s → srtd key (insS key x s)
  | [], _ => by simp [insS, srtd]
  | y :: s, h => by
    obtain ⟨h1, h2⟩ := List.pairwise_cons.1 h
    unfold insS
    split
    · rename_i hx
      refine List.pairwise_cons.2 ⟨fun z hz => ?_, h⟩
      rcases List.mem_cons.1 hz with rfl | hz
      · omega
      · have := h1 z hz; omega
    · rename_i hx
      refine List.pairwise_cons.2 ⟨fun z hz => ?_, insS_srtd h2⟩
      rcases insS_mem.1 hz with rfl | hz
      · omega
      · exact h1 z hz
theorem insS_at {x : α} : ∀ {S1 S2 : List α}, (∀ y ∈ S1, ¬ key x < key y) → (∀ y ∈ S2, key x < key y) → insS key x (S1 ++ S2) = S1 ++ x :: S2
  | [], [], _, _ => rfl
  | [], y :: s, _, h => by simp only [List.nil_append]; unfold insS; rw [if_pos (h y (by simp))]
  | y :: s, S2, h, h2 => by
    simp only [List.cons_append]; unfold insS
    rw [if_neg (h y (by simp)), insS_at (fun z hz => h z (by simp [hz])) h2]
theorem isort_next {l : List α} {x : α} : isort key (l ++ [x]) = insS key x (isort key l) := by unfold isort; rw [List.foldl_append]; rfl
theorem isort_all (key : α → Int) (l : List α) : srtd key (isort key l) ∧ (isort key l).length = l.length ∧ ∀ z, z ∈ isort key l ↔ z ∈ l := by
  unfold isort
  suffices h : ∀ (l s : List α), srtd key s → srtd key (l.foldl (fun s x => insS key x s) s) ∧ (l.foldl (fun s x => insS key x s) s).length = l.length + s.length ∧ ∀ z, z ∈ l.foldl (fun s x => insS key x s) s ↔ z ∈ l ∨ z ∈ s by
    obtain ⟨h1, h2, h3⟩ := h l [] List.Pairwise.nil
    exact ⟨h1, by simpa using h2, fun z => by simpa using h3 z⟩
  intro l
  induction l with
  | nil => intro s hs; exact ⟨hs, by simp, fun z => by simp⟩
  | cons x l ih =>
    intro s hs
    obtain ⟨h1, h2, h3⟩ := ih (insS key x s) (insS_srtd hs)
    refine ⟨h1, by rw [List.foldl_cons, h2, insS_len]; simp; omega, fun z => ?_⟩
    rw [List.foldl_cons, h3, insS_mem, List.mem_cons]
    constructor
    · rintro (h | h | h) <;> simp [h]
    · rintro ((h | h) | h) <;> simp [h]
theorem isort_mem {l : List α} {z : α} : z ∈ isort key l ↔ z ∈ l := (isort_all key l).2.2 z
theorem isort_len (l : List α) : (isort key l).length = l.length := (isort_all key l).2.1
def srt (key : α → Int) (l : List α) (a b : Nat) : List α := l.take a ++ isort key ((l.drop a).take (b - a)) ++ l.drop b
theorem srt_len {l : List α} {a b : Nat} (h : a ≤ b) (hb : b ≤ l.length) : (srt key l a b).length = l.length := by
  unfold srt; simp only [List.length_append, List.length_take, isort_len, List.length_drop]; omega
theorem srt_same {l : List α} {a : Nat} : srt key l a a = l := by
  unfold srt; simp [isort]
theorem seg_next {l : List α} {a i : Nat} {x : α} (h : a ≤ i) (hx : l[i]? = some x) : (l.drop a).take (i + 1 - a) = (l.drop a).take (i - a) ++ [x] := by
  rw [show i + 1 - a = (i - a) + 1 by omega, List.take_add_one, List.getElem?_drop, show a + (i - a) = i by omega, hx]; rfl
theorem drop_next {l : List α} {i : Nat} {x : α} (hx : l[i]? = some x) : l.drop i = x :: l.drop (i + 1) := by
  obtain ⟨h, e⟩ := List.getElem?_eq_some_iff.1 hx
  rw [List.drop_eq_getElem_cons h, e]
theorem srt_one {l : List α} {a : Nat} (h : a < l.length) : srt key l a (a + 1) = l := by
  obtain ⟨x, hx⟩ : ∃ x, l[a]? = some x := ⟨_, List.getElem?_eq_getElem h⟩
  unfold srt
  rw [seg_next (Nat.le_refl _) hx, Nat.sub_self, List.take_zero, isort_next]
  show l.take a ++ [x] ++ l.drop (a + 1) = l
  rw [List.append_assoc, List.singleton_append, ← drop_next hx, List.take_append_drop]
theorem swap_at {P R : List α} {x y : α} {i j : Nat} (hj : j = P.length + 1) (hi : i = P.length) : ((P ++ y :: x :: R).set j y).set i x = P ++ x :: y :: R := by
  subst hj hi
  rw [List.set_append, if_neg (by omega), show P.length + 1 - P.length = 1 by omega, List.set_append, if_neg (by omega), Nat.sub_self]; rfl
def SE (key : α → Int) (l L : List α) : Prop := ∀ k : Int, L.filter (fun x => decide (key x = k)) = l.filter (fun x => decide (key x = k))
theorem SE.refl (l : List α) : SE key l l := fun _ => rfl
theorem SE.trans {a b c : List α} (h : SE key a b) (k : SE key b c) : SE key a c := fun i => (k i).trans (h i)
theorem SE.symm {a b : List α} (h : SE key a b) : SE key b a := fun i => (h i).symm
theorem SE.append {a b c d : List α} (h : SE key a b) (k : SE key c d) : SE key (a ++ c) (b ++ d) := fun i => by rw [List.filter_append, List.filter_append, h i, k i]
theorem SE.mem {a b : List α} (h : SE key a b) {x : α} : x ∈ b ↔ x ∈ a := by
  have e := h (key x)
  have h1 : x ∈ b ↔ x ∈ b.filter (fun y => decide (key y = key x)) := by simp
  have h2 : x ∈ a ↔ x ∈ a.filter (fun y => decide (key y = key x)) := by simp
  rw [h1, h2, e]
theorem filter_none {l : List α} {k : Int} (h : ∀ x ∈ l, key x ≠ k) : l.filter (fun x => decide (key x = k)) = [] := by
  rw [List.filter_eq_nil_iff]; intro x hx; simp [h x hx]
theorem SE.swap {a b : List α} (h : ∀ x ∈ a, ∀ y ∈ b, key x ≠ key y) : SE key (a ++ b) (b ++ a) := fun k => by
  rw [List.filter_append, List.filter_append]
  by_cases hx : ∃ x ∈ a, key x = k
  · obtain ⟨x, hx, rfl⟩ := hx
    rw [filter_none (l := b) fun y hy e => h x hx y hy e.symm]; simp
  · rw [filter_none (l := a) fun y hy e => hx ⟨y, hy, e⟩]; simp
theorem insS_se {x : α} : ∀ {s : List α}, srtd key s → SE key (s ++ [x]) (insS key x s)
  | [], _ => SE.refl _
  | y :: s, h => by
    obtain ⟨h1, h2⟩ := List.pairwise_cons.1 h
    unfold insS
    split
    · rename_i hx
      refine SE.swap (a := y :: s) (b := [x]) fun z hz w hw => ?_
      simp at hw; subst hw
      rcases List.mem_cons.1 hz with rfl | hz
      · omega
      · have := h1 z hz; omega
    · exact SE.append (a := [y]) (b := [y]) (SE.refl _) (insS_se h2)
theorem isort_se (key : α → Int) (l : List α) : SE key l (isort key l) := by
  suffices h : ∀ r : List α, SE key r.reverse (isort key r.reverse) by simpa using h l.reverse
  intro r
  induction r with
  | nil => exact SE.refl _
  | cons x r ih =>
    rw [List.reverse_cons, isort_next]
    exact (SE.append ih (SE.refl [x])).trans (insS_se (isort_all _ _).1)
theorem srtd_unique : ∀ {L M : List α}, srtd key L → srtd key M → SE key L M → L = M
  | [], [], _, _, _ => rfl
  | [], y :: M, _, _, h => by have := (h.mem (x := y)).1 (by simp); simp at this
  | x :: L, [], _, _, h => by have := (h.mem (x := x)).2 (by simp); simp at this
  | x :: L, y :: M, h1, h2, h => by
    obtain ⟨a1, a2⟩ := List.pairwise_cons.1 h1
    obtain ⟨b1, b2⟩ := List.pairwise_cons.1 h2
    have e1 : key x ≤ key y := by
      rcases List.mem_cons.1 ((h.mem (x := y)).1 (by simp)) with rfl | hm
      · exact Int.le_refl _
      · exact a1 y hm
    have e2 : key y ≤ key x := by
      rcases List.mem_cons.1 ((h.mem (x := x)).2 (by simp)) with rfl | hm
      · exact Int.le_refl _
      · exact b1 x hm
    have e3 : key y = key x := by omega
    have e4 := h (key x)
    rw [List.filter_cons, List.filter_cons, if_pos (by simp [e3]), if_pos (by simp)] at e4
    obtain ⟨rfl, _⟩ := List.cons.inj e4
    rw [srtd_unique a2 b2 fun k => ?_]
    have e5 := h k
    rw [List.filter_cons, List.filter_cons] at e5
    split at e5
    · exact (List.cons.inj e5).2
    · exact e5
theorem isort_of {l L : List α} (h : srtd key L) (hs : SE key l L) : isort key l = L := srtd_unique (isort_all _ _).1 h ((isort_se key l).symm.trans hs)
theorem isort_srtd {l : List α} (h : srtd key l) : isort key l = l := isort_of h (SE.refl _)
theorem srtd_app {a b : List α} : srtd key (a ++ b) ↔ srtd key a ∧ srtd key b ∧ ∀ x ∈ a, ∀ y ∈ b, key x ≤ key y := List.pairwise_append
theorem srt_app {P M S : List α} {a b : Nat} (ha : a = P.length) (hb : b = P.length + M.length) : srt key (P ++ M ++ S) a b = P ++ isort key M ++ S := by
  subst ha hb
  have e1 : (P ++ M ++ S).take P.length = P := by simp
  have e2 : (P ++ M ++ S).drop P.length = M ++ S := by simp
  have e3 : (P ++ M ++ S).drop (P.length + M.length) = S := by rw [← List.length_append, List.drop_left]
  unfold srt
  rw [e1, e2, e3, Nat.add_sub_cancel_left, List.take_left]
theorem merge_split {P A B C D S : List α} (hA : srtd key (A ++ B)) (hC : srtd key (C ++ D)) (h1 : ∀ x ∈ A, ∀ y ∈ D, key x ≤ key y) (h2 : ∀ x ∈ B, ∀ y ∈ C, key y < key x) :
    P ++ isort key (A ++ C) ++ isort key (B ++ D) ++ S = P ++ isort key (A ++ B ++ C ++ D) ++ S := by
  obtain ⟨a1, a2, a3⟩ := srtd_app.1 hA
  obtain ⟨c1, c2, c3⟩ := srtd_app.1 hC
  have : isort key (A ++ B ++ C ++ D) = isort key (A ++ C) ++ isort key (B ++ D) := by
    refine isort_of (srtd_app.2 ⟨(isort_all _ _).1, (isort_all _ _).1, fun x hx y hy => ?_⟩) ?_
    · rw [isort_mem] at hx hy
      rcases List.mem_append.1 hx with hx | hx <;> rcases List.mem_append.1 hy with hy | hy
      · exact a3 x hx y hy
      · exact h1 x hx y hy
      · have := h2 y hy x hx; omega
      · exact c3 x hx y hy
    · refine SE.trans (b := (A ++ C) ++ (B ++ D)) ?_ ((isort_se _ _).append (isort_se _ _))
      have e : SE key (B ++ C) (C ++ B) := SE.swap fun x hx y hy => by have := h2 x hx y hy; omega
      have := ((SE.refl A).append e).append (SE.refl D)
      simpa [List.append_assoc] using this
  rw [this]; simp [List.append_assoc]
def swp [Inhabited α] (l : List α) (i j : Nat) : List α := (l.set i (l.getD j default)).set j (l.getD i default)
theorem swp_at [Inhabited α] {P M S : List α} {x y : α} {i j : Nat} (hi : i = P.length) (hj : j = P.length + 1 + M.length) : swp (P ++ x :: (M ++ y :: S)) i j = P ++ y :: (M ++ x :: S) := by
  subst hi hj
  have e1 : (P ++ x :: (M ++ y :: S)).getD P.length default = x := by simp [List.getD_eq_getElem?_getD]
  have e2 : (P ++ x :: (M ++ y :: S)).getD (P.length + 1 + M.length) default = y := by
    rw [List.getD_eq_getElem?_getD, List.getElem?_append_right (by omega), show P.length + 1 + M.length - P.length = M.length + 1 by omega, List.getElem?_cons_succ]; simp
  unfold swp
  rw [e1, e2, List.set_append, if_neg (by omega), Nat.sub_self, List.set_cons_zero, List.set_append, if_neg (by omega), show P.length + 1 + M.length - P.length = M.length + 1 by omega, List.set_cons_succ, List.set_append, if_neg (by omega), Nat.sub_self, List.set_cons_zero]
def swr [Inhabited α] (l : List α) (a b : Nat) : Nat → List α
  | 0 => l
  | n + 1 => swr (swp l a b) (a + 1) (b + 1) n
theorem swr_at [Inhabited α] : ∀ {P X M Y S : List α} {a b n : Nat}, a = P.length → b = P.length + X.length + M.length → n = X.length → n = Y.length → swr (P ++ X ++ M ++ Y ++ S) a b n = P ++ Y ++ M ++ X ++ S
  | P, [], M, [], S, a, b, n, _, _, h, _ => by simp at h; subst h; simp [swr]
  | P, x :: X, M, y :: Y, S, a, b, n + 1, ha, hb, hx, hy => by
    subst ha hb
    have e : swp (P ++ (x :: X) ++ M ++ (y :: Y) ++ S) P.length (P.length + (x :: X).length + M.length) = (P ++ [y]) ++ X ++ (M ++ [x]) ++ Y ++ S := by
      have := swp_at (P := P) (M := X ++ M) (S := Y ++ S) (x := x) (y := y) (i := P.length) (j := P.length + (x :: X).length + M.length) rfl (by simp; omega)
      simpa [List.append_assoc] using this
    rw [swr, e, swr_at (P := P ++ [y]) (M := M ++ [x]) (by simp) (by simp; omega) (by simpa using hx) (by simpa using hy)]
    simp [List.append_assoc]
  | _, [], _, _ :: _, _, _, _, _, _, _, h, k => by simp at h k; omega
  | _, _ :: _, _, [], _, _, _, _, _, _, h, k => by simp at h k; omega
  | _, _ :: _, _, _ :: _, _, _, _, 0, _, _, h, _ => by simp at h
def kat [Inhabited α] (key : α → Int) (l : List α) (i : Nat) : Int := key (l.getD i default)
theorem kat_of [Inhabited α] {l : List α} {i : Nat} {x : α} (h : l[i]? = some x) : kat key l i = key x := by unfold kat; rw [List.getD_eq_getElem?_getD, h]; rfl
def seg (l : List α) (a b : Nat) : List α := (l.drop a).take (b - a)
theorem seg_get {l : List α} {a b i : Nat} : (seg l a b)[i]? = if a + i < b then l[a + i]? else none := by
  unfold seg
  rw [List.getElem?_take]
  by_cases h : i < b - a
  · rw [if_pos h, if_pos (by omega), List.getElem?_drop]
  · rw [if_neg h, if_neg (by omega)]
theorem seg_mem {l : List α} {a b : Nat} {x : α} : x ∈ seg l a b ↔ ∃ i, a ≤ i ∧ i < b ∧ l[i]? = some x := by
  rw [List.mem_iff_getElem?]
  constructor
  · rintro ⟨i, h⟩
    rw [seg_get] at h
    split at h
    · exact ⟨a + i, by omega, by omega, h⟩
    · cases h
  · rintro ⟨i, h1, h2, h3⟩
    exact ⟨i - a, by rw [seg_get, if_pos (by omega), show a + (i - a) = i by omega]; exact h3⟩
theorem seg_len {l : List α} {a b : Nat} (hb : b ≤ l.length) : (seg l a b).length = b - a := by unfold seg; simp; omega
theorem seg_kat [Inhabited α] {l : List α} {a b : Nat} (h : srtd key (seg l a b)) {i j : Nat} (h1 : a ≤ i) (h2 : i ≤ j) (h3 : j < b) (hb : b ≤ l.length) : kat key l i ≤ kat key l j := by
  obtain ⟨x, hx⟩ : ∃ x, l[i]? = some x := ⟨_, List.getElem?_eq_getElem (by omega)⟩
  obtain ⟨y, hy⟩ : ∃ y, l[j]? = some y := ⟨_, List.getElem?_eq_getElem (by omega)⟩
  rw [kat_of hx, kat_of hy]
  by_cases e : i = j
  · subst e; rw [hx] at hy; cases hy; exact Int.le_refl _
  · have := List.pairwise_iff_getElem.1 h (i - a) (j - a) (by rw [seg_len hb]; omega) (by rw [seg_len hb]; omega) (by omega)
    have e1 : (seg l a b)[i - a]? = some x := by rw [seg_get, if_pos (by omega), show a + (i - a) = i by omega]; exact hx
    have e2 : (seg l a b)[j - a]? = some y := by rw [seg_get, if_pos (by omega), show a + (j - a) = j by omega]; exact hy
    rw [(List.getElem?_eq_some_iff.1 e1).2, (List.getElem?_eq_some_iff.1 e2).2] at this
    exact this
theorem seg_cat {l : List α} {a m b : Nat} (h1 : a ≤ m) (h2 : m ≤ b) : seg l a b = seg l a m ++ seg l m b := by
  apply List.ext_getElem?
  intro i
  by_cases hl : b ≤ l.length
  · rw [List.getElem?_append, seg_len (by omega), seg_get, seg_get, seg_get]
    by_cases c : i < m - a
    · rw [if_pos c]
      by_cases d : a + i < b
      · rw [if_pos d, if_pos (by omega)]
      · omega
    · rw [if_neg c, show m + (i - (m - a)) = a + i by omega]
  · unfold seg
    rw [show l.drop m = (l.drop a).drop (m - a) by rw [List.drop_drop]; congr 1; omega, show b - a = (m - a) + (b - m) by omega, List.take_add]
theorem seg_split {l : List α} {a b : Nat} (h : a ≤ b) : l = l.take a ++ seg l a b ++ l.drop b := by
  unfold seg
  rw [List.append_assoc]
  conv => lhs; rw [← List.take_append_drop a l]
  congr 1
  conv => lhs; rw [← List.take_append_drop (b - a) (l.drop a)]
  congr 1
  rw [List.drop_drop]; congr 1; omega
theorem srt_seg {l : List α} {a b : Nat} : srt key l a b = l.take a ++ isort key (seg l a b) ++ l.drop b := rfl
theorem srt_srtd {l : List α} {a b : Nat} (h : a ≤ b) (hs : srtd key (seg l a b)) : srt key l a b = l := by rw [srt_seg, isort_srtd hs, ← seg_split h]
theorem srt_se {l : List α} {a b : Nat} (h : a ≤ b) : SE key l (srt key l a b) := by
  have := ((SE.refl (l.take a)).append (isort_se key (seg l a b))).append (SE.refl (l.drop b))
  rw [← seg_split h] at this
  exact this
theorem isort_cons {x : α} {R1 R2 : List α} (hs : srtd key (R1 ++ R2)) (h1 : ∀ y ∈ R1, key y < key x) (h2 : ∀ y ∈ R2, key x ≤ key y) : isort key (x :: (R1 ++ R2)) = R1 ++ x :: R2 := by
  obtain ⟨a1, a2, a3⟩ := srtd_app.1 hs
  refine isort_of (srtd_app.2 ⟨a1, List.pairwise_cons.2 ⟨h2, a2⟩, fun y hy z hz => ?_⟩) ?_
  · rcases List.mem_cons.1 hz with rfl | hz
    · have := h1 y hy; omega
    · exact a3 y hy z hz
  · have e : SE key ([x] ++ R1) (R1 ++ [x]) := SE.swap fun y hy z hz => by
      simp at hy; subst hy; have := h1 z hz; omega
    have := e.append (SE.refl R2)
    simpa [List.append_assoc] using this
theorem isort_snoc {x : α} {R1 R2 : List α} (hs : srtd key (R1 ++ R2)) (h1 : ∀ y ∈ R1, key y ≤ key x) (h2 : ∀ y ∈ R2, key x < key y) : isort key (R1 ++ R2 ++ [x]) = R1 ++ x :: R2 := by
  rw [isort_next, isort_srtd hs]
  exact insS_at (fun y hy => by have := h1 y hy; omega) h2
def bub [Inhabited α] (l : List α) (a : Nat) : Nat → List α
  | 0 => l
  | n + 1 => bub (swp l a (a + 1)) (a + 1) n
theorem bub_at [Inhabited α] : ∀ {R P S : List α} {x : α} {a n : Nat}, a = P.length → n = R.length → bub (P ++ x :: (R ++ S)) a n = P ++ R ++ x :: S
  | [], P, S, x, a, n, _, h => by simp at h; subst h; simp [bub]
  | y :: R, P, S, x, a, 0, _, h => by simp at h
  | y :: R, P, S, x, a, n + 1, ha, h => by
    have e : swp (P ++ x :: ((y :: R) ++ S)) a (a + 1) = (P ++ [y]) ++ x :: (R ++ S) := by
      have := swp_at (P := P) (M := []) (S := R ++ S) (x := x) (y := y) (i := a) (j := a + 1) ha (by simp [ha])
      simpa [List.append_assoc] using this
    rw [bub, e, bub_at (by simp [ha]) (by simpa using h)]
    simp [List.append_assoc]
def bubd [Inhabited α] (l : List α) (k : Nat) : Nat → List α
  | 0 => l
  | n + 1 => bubd (swp l k (k - 1)) (k - 1) n
theorem bubd_at [Inhabited α] : ∀ {n : Nat} {R P S : List α} {x : α} {k : Nat}, k = P.length + R.length → n = R.length → bubd (P ++ R ++ x :: S) k n = P ++ x :: (R ++ S)
  | 0, R, P, S, x, k, _, h => by
    have : R = [] := List.eq_nil_of_length_eq_zero h.symm
    subst this; simp [bubd]
  | n + 1, R, P, S, x, k, hk, h => by
    obtain ⟨R0, y, rfl⟩ : ∃ R0 y, R = R0 ++ [y] := by
      have hne : R ≠ [] := by rintro rfl; simp at h
      exact ⟨_, _, (List.dropLast_concat_getLast hne).symm⟩
    simp only [List.length_append, List.length_singleton] at hk h
    have e : swp (P ++ (R0 ++ [y]) ++ x :: S) k (k - 1) = P ++ R0 ++ x :: (y :: S) := by
      have e0 : P ++ (R0 ++ [y]) ++ x :: S = (P ++ R0) ++ y :: x :: S := by simp [List.append_assoc]
      have e1 : ((P ++ R0) ++ y :: x :: S).getD (k - 1) default = y := by rw [List.getD_eq_getElem?_getD, List.getElem?_append_right (by simp; omega), show k - 1 - (P ++ R0).length = 0 by simp; omega]; rfl
      have e2 : ((P ++ R0) ++ y :: x :: S).getD k default = x := by rw [List.getD_eq_getElem?_getD, List.getElem?_append_right (by simp; omega), show k - (P ++ R0).length = 1 by simp; omega]; rfl
      rw [e0]; unfold swp; rw [e1, e2]
      exact swap_at (by simp; omega) (by simp; omega)
    rw [bubd, e, bubd_at (by omega) (by omega)]
    simp [List.append_assoc]
theorem take_seg {l : List α} {a : Nat} {x : α} (hx : l[a]? = some x) : seg l a (a + 1) = [x] := by
  unfold seg; rw [drop_next hx, Nat.add_sub_cancel_left]; rfl
theorem drop_seg {l : List α} {a b : Nat} (h : a ≤ b) : l.drop a = seg l a b ++ l.drop b := by
  unfold seg
  conv => lhs; rw [← List.take_append_drop (b - a) (l.drop a)]
  congr 1
  rw [List.drop_drop]; congr 1; omega
theorem merge_one [Inhabited α] {l : List α} {a b i : Nat} (ha : a + 1 ≤ i) (hib : i ≤ b) (hb : b ≤ l.length) (hs : srtd key (seg l (a + 1) b)) (h1 : a + 1 < i → kat key l (i - 1) < kat key l a) (h2 : i < b → kat key l a ≤ kat key l i) :
    bub l a (i - (a + 1)) = srt key l a b := by
  obtain ⟨x, hx⟩ : ∃ x, l[a]? = some x := ⟨_, List.getElem?_eq_getElem (by omega)⟩
  have e : l = l.take a ++ x :: (seg l (a + 1) i ++ (seg l i b ++ l.drop b)) := by
    conv => lhs; rw [← List.take_append_drop a l, drop_next hx, drop_seg ha, drop_seg hib]
  rw [srt_seg, seg_cat (m := a + 1) (by omega) (by omega), take_seg hx, seg_cat ha hib]
  rw [seg_cat ha hib] at hs
  rw [List.singleton_append, isort_cons hs (fun y hy => ?_) (fun y hy => ?_)]
  · conv => lhs; rw [e, bub_at (by simp; omega) (by rw [seg_len (by omega)])]
    simp [List.append_assoc]
  · obtain ⟨q, h3, h4, h5⟩ := seg_mem.1 hy
    rw [← seg_cat ha hib] at hs
    have := seg_kat hs h3 (show q ≤ i - 1 by omega) (by omega) hb
    rw [kat_of h5] at this
    have := h1 (by omega)
    rw [kat_of hx] at this
    omega
  · obtain ⟨q, h3, h4, h5⟩ := seg_mem.1 hy
    rw [← seg_cat ha hib] at hs
    have := seg_kat hs ha h3 h4 hb
    rw [kat_of h5] at this
    have := h2 (by omega)
    rw [kat_of hx] at this
    omega
theorem merge_last [Inhabited α] {l : List α} {a m i : Nat} (ai : a ≤ i) (im : i ≤ m) (hm : m < l.length) (hs : srtd key (seg l a m)) (h1 : a < i → kat key l (i - 1) ≤ kat key l m) (h2 : i < m → kat key l m < kat key l i) :
    bubd l m (m - i) = srt key l a (m + 1) := by
  obtain ⟨x, hx⟩ : ∃ x, l[m]? = some x := ⟨_, List.getElem?_eq_getElem (by omega)⟩
  have e : l = (l.take a ++ seg l a i) ++ seg l i m ++ x :: l.drop (m + 1) := by
    conv => lhs; rw [← List.take_append_drop a l, drop_seg ai, drop_seg im, drop_next hx]
    simp [List.append_assoc]
  rw [srt_seg, seg_cat (m := m) (by omega) (by omega), take_seg hx, seg_cat ai im]
  rw [seg_cat ai im] at hs
  rw [isort_snoc hs (fun y hy => ?_) (fun y hy => ?_)]
  · conv => lhs; rw [e, bubd_at (by simp [seg_len (show i ≤ l.length by omega), seg_len (show m ≤ l.length by omega)]; omega) (by rw [seg_len (by omega)])]
    simp [List.append_assoc]
  · obtain ⟨q, h3, h4, h5⟩ := seg_mem.1 hy
    rw [← seg_cat ai im] at hs
    have := seg_kat hs h3 (show q ≤ i - 1 by omega) (by omega) (by omega)
    rw [kat_of h5] at this
    have := h1 (by omega)
    rw [kat_of hx] at this
    omega
  · obtain ⟨q, h3, h4, h5⟩ := seg_mem.1 hy
    rw [← seg_cat ai im] at hs
    have := seg_kat hs ai h3 h4 (by omega)
    rw [kat_of h5] at this
    have := h2 (by omega)
    rw [kat_of hx] at this
    omega
def rot (l : List α) (a m b : Nat) : List α := l.take a ++ seg l m b ++ seg l a m ++ l.drop b
theorem rot_len {l : List α} {a m b : Nat} (h1 : a ≤ m) (h2 : m ≤ b) (hb : b ≤ l.length) : (rot l a m b).length = l.length := by
  unfold rot; simp only [List.length_append, List.length_take, List.length_drop, seg_len hb, seg_len (show m ≤ l.length by omega)]; omega
theorem split4 {l : List α} {a m b : Nat} (h1 : a ≤ m) (h2 : m ≤ b) : l = l.take a ++ seg l a m ++ seg l m b ++ l.drop b := by
  conv => lhs; rw [← List.take_append_drop a l, drop_seg h1, drop_seg h2]
  simp [List.append_assoc]
theorem rot_same {l : List α} {a m b : Nat} (h1 : a ≤ m) (h2 : m ≤ b) (h : ¬ (a < m ∧ m < b)) : rot l a m b = l := by
  conv => rhs; rw [split4 (l := l) h1 h2]
  unfold rot
  by_cases e : a = m
  · subst e; rw [show seg l a a = [] by unfold seg; simp]; simp
  · have : m = b := by omega
    subst this; rw [show seg l m m = [] by unfold seg; simp]; simp
theorem seg_app {P M S : List α} {a b : Nat} (ha : a = P.length) (hb : b = P.length + M.length) : seg (P ++ M ++ S) a b = M := by
  subst ha hb
  unfold seg
  rw [List.append_assoc, List.drop_left, Nat.add_sub_cancel_left, List.take_left]
theorem merge_mid [Inhabited α] {l : List α} {a m b st en mid : Nat} (h1 : a ≤ st) (h2 : st ≤ m) (h3 : m ≤ en) (h4 : en ≤ b) (hb : b ≤ l.length) (hmid : mid + m = st + en) (hs1 : srtd key (seg l a m)) (hs2 : srtd key (seg l m b))
    (f1 : a < st → en < b → kat key l (st - 1) ≤ kat key l en) (f2 : st < m → m < en → kat key l (en - 1) < kat key l st) :
    srtd key (seg (rot l st m en) a st) ∧ srtd key (seg (rot l st m en) st mid) ∧ srtd key (seg (srt key (rot l st m en) a mid) mid en) ∧ srtd key (seg (srt key (rot l st m en) a mid) en b) ∧ srt key (srt key (rot l st m en) a mid) mid b = srt key l a b := by
  have lA := seg_len (l := l) (a := a) (b := st) (by omega)
  have lB := seg_len (l := l) (a := st) (b := m) (by omega)
  have lC := seg_len (l := l) (a := m) (b := en) (by omega)
  have lD := seg_len (l := l) (a := en) (b := b) (by omega)
  have g1 : ∀ x ∈ seg l a st, ∀ y ∈ seg l en b, key x ≤ key y := fun x hx y hy => by
    obtain ⟨p, p1, p2, p3⟩ := seg_mem.1 hx
    obtain ⟨q, q1, q2, q3⟩ := seg_mem.1 hy
    have a1 := seg_kat hs1 p1 (show p ≤ st - 1 by omega) (by omega) (by omega)
    have a2 := seg_kat hs2 h3 q1 q2 hb
    have a3 := f1 (by omega) (by omega)
    rw [kat_of p3] at a1; rw [kat_of q3] at a2
    omega
  have g2 : ∀ x ∈ seg l st m, ∀ y ∈ seg l m en, key y < key x := fun x hx y hy => by
    obtain ⟨p, p1, p2, p3⟩ := seg_mem.1 hx
    obtain ⟨q, q1, q2, q3⟩ := seg_mem.1 hy
    have a1 := seg_kat hs1 h1 p1 p2 (by omega)
    have a2 := seg_kat hs2 q1 (show q ≤ en - 1 by omega) (by omega) hb
    have a3 := f2 (by omega) (by omega)
    rw [kat_of p3] at a1; rw [kat_of q3] at a2
    omega
  have eT : l.take st = l.take a ++ seg l a st := by
    have := seg_split (l := l) h1
    conv => lhs; rw [this, List.append_assoc, ← List.append_assoc]
    rw [List.take_left' (by simp only [List.length_append, List.length_take, lA]; omega)]
  have eD : l.drop en = seg l en b ++ l.drop b := drop_seg h4
  have eR : rot l st m en = l.take a ++ (seg l a st ++ seg l m en) ++ (seg l st m ++ (seg l en b ++ l.drop b)) := by
    unfold rot; rw [eT, eD]; simp [List.append_assoc]
  have eL : seg l a b = seg l a st ++ seg l st m ++ seg l m en ++ seg l en b := by rw [seg_cat (m := m) (by omega) (by omega), seg_cat h1 h2, seg_cat h3 h4]; simp [List.append_assoc]
  rw [seg_cat h1 h2] at hs1
  rw [seg_cat h3 h4] at hs2
  have hta : (l.take a).length = a := by rw [List.length_take]; omega
  have eS : srt key (rot l st m en) a mid = l.take a ++ isort key (seg l a st ++ seg l m en) ++ (seg l st m ++ (seg l en b ++ l.drop b)) := by
    rw [eR, srt_app (by omega) (by rw [hta, List.length_append, lA, lC]; omega)]
  have eS2 : srt key (rot l st m en) a mid = (l.take a ++ isort key (seg l a st ++ seg l m en)) ++ (seg l st m ++ seg l en b) ++ l.drop b := by rw [eS]; simp [List.append_assoc]
  have hP : (l.take a ++ isort key (seg l a st ++ seg l m en)).length = mid := by rw [List.length_append, isort_len, List.length_append, hta, lA, lC]; omega
  obtain ⟨a1, a2, a3⟩ := srtd_app.1 hs1
  obtain ⟨c1, c2, c3⟩ := srtd_app.1 hs2
  refine ⟨?_, ?_, ?_, ?_, ?_⟩
  · rw [eR, show l.take a ++ (seg l a st ++ seg l m en) ++ (seg l st m ++ (seg l en b ++ l.drop b)) = l.take a ++ seg l a st ++ (seg l m en ++ (seg l st m ++ (seg l en b ++ l.drop b))) by simp [List.append_assoc], seg_app (by omega) (by omega)]
    exact a1
  · rw [eR, show l.take a ++ (seg l a st ++ seg l m en) ++ (seg l st m ++ (seg l en b ++ l.drop b)) = (l.take a ++ seg l a st) ++ seg l m en ++ (seg l st m ++ (seg l en b ++ l.drop b)) by simp [List.append_assoc], seg_app (by rw [List.length_append]; omega) (by rw [List.length_append]; omega)]
    exact c1
  · rw [eS, show l.take a ++ isort key (seg l a st ++ seg l m en) ++ (seg l st m ++ (seg l en b ++ l.drop b)) = (l.take a ++ isort key (seg l a st ++ seg l m en)) ++ seg l st m ++ (seg l en b ++ l.drop b) by simp [List.append_assoc], seg_app hP.symm (by rw [hP]; omega)]
    exact a2
  · rw [eS, show l.take a ++ isort key (seg l a st ++ seg l m en) ++ (seg l st m ++ (seg l en b ++ l.drop b)) = (l.take a ++ isort key (seg l a st ++ seg l m en) ++ seg l st m) ++ seg l en b ++ l.drop b by simp [List.append_assoc], seg_app (by rw [List.length_append, hP]; omega) (by rw [List.length_append, hP]; omega)]
    exact c2
  · rw [eS2, srt_app hP.symm (by rw [hP, List.length_append]; omega), srt_seg, eL]
    exact merge_split hs1 hs2 g1 g2
def blk (key : α → Int) (l : List α) (bs a b : Nat) : Prop := ∀ q, a ≤ q → q < b → srtd key (seg l (q * bs) (q * bs + bs))
theorem seg_srt {l : List α} {a b : Nat} (h : a ≤ b) (hb : b ≤ l.length) : seg (srt key l a b) a b = isort key (seg l a b) := by
  rw [srt_seg]; exact seg_app (by simp; omega) (by rw [isort_len, seg_len hb]; simp; omega)
theorem srt_get {l : List α} {a b i : Nat} (h : a ≤ b) (hb : b ≤ l.length) (hi : i < a ∨ b ≤ i) : (srt key l a b)[i]? = l[i]? := by
  have hta : (l.take a).length = a := by rw [List.length_take]; omega
  rw [srt_seg]
  rcases hi with hi | hi
  · rw [List.append_assoc, List.getElem?_append_left (by omega), List.getElem?_take, if_pos hi]
  · rw [List.getElem?_append_right (by rw [List.length_append, hta, isort_len, seg_len hb]; omega), List.length_append, hta, isort_len, seg_len hb, List.getElem?_drop]
    congr 1; omega
theorem srt_other {l : List α} {a b c d : Nat} (h : a ≤ b) (hb : b ≤ l.length) (hc : d ≤ a ∨ b ≤ c) : seg (srt key l a b) c d = seg l c d := by
  apply List.ext_getElem?
  intro i
  rw [seg_get, seg_get]
  split
  · exact srt_get h hb (by omega)
  · rfl
theorem seg_past {l : List α} {a b c : Nat} (hb : l.length ≤ b) (hc : l.length ≤ c) : seg l a b = seg l a c := by
  apply List.ext_getElem?
  intro i
  rw [seg_get, seg_get]
  split <;> split
  · rfl
  · rw [List.getElem?_eq_none (by omega)]
  · rw [List.getElem?_eq_none (by omega)]
  · rfl
theorem seg_none {l : List α} {a b : Nat} (h : l.length ≤ a) : seg l a b = [] := by
  apply List.ext_getElem?
  intro i
  rw [seg_get]
  split
  · rw [List.getElem?_eq_none (by omega)]; rfl
  · rfl
theorem srtd_nil : srtd key ([] : List α) := List.Pairwise.nil
theorem dvd_next {d a c : Nat} (hd : d ∣ a) (hc : d ∣ c) (h1 : a ≤ c) (h2 : c < a + d) : c = a := by
  have := Nat.eq_zero_of_dvd_of_lt (Nat.dvd_sub hc hd) (by omega)
  omega
theorem dvd_below {d a c : Nat} (hd : d ∣ a) (hc : d ∣ c) (h : c < a) : c + d ≤ a := by
  rcases Nat.lt_or_ge a (c + d) with k | k
  · have := dvd_next hc hd (by omega) k; omega
  · exact k
theorem dvd_above {d a c : Nat} (hd : d ∣ a) (hc : d ∣ c) (h : a < c) : a + d ≤ c := dvd_below hc hd h
theorem blk_next {l : List α} {d a : Nat} (hd : d ∣ a) (h : ∀ c, d ∣ c → c < a → srtd key (seg l c (c + d))) (hb : a + d ≤ l.length) : ∀ c, d ∣ c → c < a + d → srtd key (seg (srt key l a (a + d)) c (c + d)) := fun c hc hlt => by
  by_cases e : c < a
  · rw [srt_other (by omega) hb (.inl (dvd_below hd hc e))]; exact h c hc e
  · obtain rfl := dvd_next hd hc (by omega) hlt
    rw [seg_srt (by omega) hb]; exact (isort_all _ _).1
theorem blk_last {l : List α} {d a : Nat} (hd : d ∣ a) (h : ∀ c, d ∣ c → c < a → srtd key (seg l c (c + d))) (ha : a ≤ l.length) (hb : l.length < a + d) : ∀ c, d ∣ c → srtd key (seg (srt key l a l.length) c (c + d)) := fun c hc => by
  have hl := srt_len (key := key) ha (Nat.le_refl _)
  by_cases e : c < a
  · rw [srt_other ha (Nat.le_refl _) (.inl (dvd_below hd hc e))]; exact h c hc e
  · by_cases e2 : c = a
    · subst e2
      rw [seg_past (c := l.length) (by omega) (by omega), seg_srt ha (Nat.le_refl _)]; exact (isort_all _ _).1
    · have := dvd_above hd hc (by omega)
      rw [seg_none (by omega)]; exact srtd_nil
theorem blk_rest {l : List α} {d a : Nat} (hd : 2 * d ∣ a) (h : ∀ c, 2 * d ∣ c → c < a → srtd key (seg l c (c + 2 * d))) (h2 : ∀ c, d ∣ c → a ≤ c → srtd key (seg l c (c + d))) (hb : l.length ≤ a + d) : ∀ c, 2 * d ∣ c → srtd key (seg l c (c + 2 * d)) := fun c hc => by
  by_cases e : c < a
  · exact h c hc e
  · by_cases e2 : c = a
    · subst e2
      rw [seg_past (c := c + d) (by omega) hb]; exact h2 c (Nat.dvd_trans (Nat.dvd_mul_left _ _) hc) (Nat.le_refl _)
    · have := dvd_above hd hc (by omega)
      rw [seg_none (by omega)]; exact srtd_nil
theorem blk_others {l : List α} {d a b : Nat} (h2 : ∀ c, d ∣ c → a ≤ c → srtd key (seg l c (c + d))) (hab : a ≤ b) (hb : b ≤ l.length) : ∀ c, d ∣ c → b ≤ c → srtd key (seg (srt key l a b) c (c + d)) := fun c hc hle => by
  rw [srt_other hab hb (.inr hle)]; exact h2 c hc (by omega)
theorem blk_all {l m : List α} {d : Nat} (h : ∀ c, d ∣ c → srtd key (seg m c (c + d))) (hs : SE key l m) (hd : m.length ≤ d) : isort key l = m := by
  have := h 0 (Nat.dvd_zero _)
  rw [show seg m 0 (0 + d) = m by unfold seg; rw [List.drop_zero, List.take_of_length_le (by omega)]] at this
  exact isort_of this hs
theorem rot_mem {l : List α} {a m b : Nat} {x : α} (h : x ∈ rot l a m b) : x ∈ l := by
  unfold rot at h
  simp only [List.mem_append] at h
  rcases h with ((h | h) | h) | h
  · exact List.mem_of_mem_take h
  · exact List.mem_of_mem_drop (List.mem_of_mem_take h)
  · exact List.mem_of_mem_drop (List.mem_of_mem_take h)
  · exact List.mem_of_mem_drop h
theorem srt_mem {l : List α} {a b : Nat} (h : a ≤ b) {x : α} : x ∈ srt key l a b ↔ x ∈ l := (srt_se h).mem
end Go.Proofs.Ytphcebioiipdpaa

